/-
  Contracts of functions and plain laws (printed by a program): each theorem says what a function of the program returns; conditions are its hypotheses.
-/
import Derived.Test.YtjejapbinelgeaaGreatBase
set_option linter.all false
set_option maxRecDepth 4000
namespace Go.Proofs.YtjejapbinelgeaaGreat
open Go Go.RowKit
noncomputable section
noncomputable def w_big:FF (List Int×Unit) (Bool):=⟨fun(x0,_)=>
  .ret (decide (1048576<(x0.length:Int)))⟩
@[grind=] theorem w_big_eq (x0:List Int):w_big.f (x0,())=decide (1048576<(x0.length:Int)):=by
 simp only[w_big,FF.f,Tr.nice]
noncomputable def w_big_e:=ent1 st Tryz.func9 [] (ks:=[.sc (.sl .u8)]) w_big (fun v=>[(false,[.c (.bool v)])]) fun _=>by kernel_rfl
noncomputable def s_FindHalf_o:List (Ent1 Tryz.prog):=[]
def s_FindHalf_L0_h:Sh:=⟨[(0,false,[.sl .arg .half]),(3,false,[.ptr 0 0]),(5,false,[.int .i64])],[.box [.st .tupl []]]⟩
noncomputable def s_FindHalf_x:Fx:=⟨16,Tryz.f16,[(0,la ⟨[0,3,5],[],false,0⟩ ⟨[4],[],false,0⟩)],0⟩
noncomputable def s_FindHalf_L0_T (v0:List Half)(v2:Tupl)(v1:Int)(a:Unit):Tr (Stp (Unit) ((Int))):=
 .grd ((decide (0≤v1))&&(decide (v1<(v0.length:Int))))<|
 .ite (((v0.getD v1.toNat (Ty.zero .half)).tuple.ip==v2.ip)&&(((v0.getD v1.toNat (Ty.zero .half)).tuple.port==v2.port)&&(((v0.getD v1.toNat (Ty.zero .half)).tuple.my==v2.my)&&true))) (.ret (.out v1))<|
 .ret (.next ())
noncomputable def s_FindHalf_L0_d:s_FindHalf_L0_h.V→LC s_FindHalf_L0_h (Unit) ((Int)) (((Int))⊕(Int×Unit)):=fun(v0,v1,v2,_)=>⟨v1,(),fun v1 _=>(v0,v1,v2,()),fun v1 _=>(decide (v1<(v0.length:Int))),s_FindHalf_L0_T v0 v2,up,1,(Int.toNat ((v0.length:Int)-v1)),.inl,fun i a=> .inr (i,a),fun _ k w=>Sum.elim (fun p=>k .ret (Sh.enc ⟨[(4,false,[.int .i64])],[]⟩ (p,()))) (fun _=>k (.exit 0) (Sh.enc ⟨[(4,false,[.undef])],[]⟩ ())) w⟩
theorem s_FindHalf_L0_s:LS Tryz.prog s_FindHalf_x [0] (leC 0 s_FindHalf_L0_h s_FindHalf_L0_d):=loopC st (orcOf_ok s_FindHalf_o) _ s_FindHalf_L0_d [] trivial (by kernel_rfl) (fun _=>by kernel_rfl) fun _ _ _ _ _ _=>by kernel_rfl
theorem s_FindHalf_L0_k {v0:List Half}{v1:Int}{v2:Tupl}(h0:0≤v1)(h1:(v0.length:Int)≤4611686018427387904):(s_FindHalf_L0_d (v0,v1,v2,())).U (v0.length:Int) (fun _ _=>True) (fun p=>v1≤p∧p<(v0.length:Int)):=
 LC.okU (i:=v1) (a:=()) (fun _ _=>rfl) (fun _=>rfl) rfl h0 h1 trivial fun v1 _ hj hk hv=>by
  refine Tr.G2 ?_ fun _=>Tr.I (fun _=>Tr.Ro ?_) fun _=>Tr.Rn trivial
  all_goals (grind)
noncomputable def s_FindHalf:FT (List Half×Tupl×Unit) (Int) (fun x=>wS x.1) (fun x v=> -1≤v∧v<x.1.length):=⟨fun(x0,x1,_)=>
  .lp (s_FindHalf_L0_d (x0,0,x1,())).lp fun w1=> .sum w1 (fun p1a0=>
  .ret p1a0)<|
  fun _=>
  .ret (-1),
 fun(x0,x1,_) hp=>by
  refine Tr.L (s_FindHalf_L0_k ?_ ?_) (fun _ _=>Tr.Sr (Tr.R ?_)) (fun p1a0 _=>Tr.Sl (Tr.R ?_))
  all_goals ((try simp only[s_FindHalf_L0_d,LC.lp,LC.ct,Ct.lp]at*)<;>grind)⟩
noncomputable def s_FindHalf_e:=entT st s_FindHalf_x s_FindHalf_o [(leC 0 s_FindHalf_L0_h s_FindHalf_L0_d)] (ks:=[.sc (.sl .half),.st .tupl]) s_FindHalf (fun v=>[(false,[.c (.int .i64 v)])]) Tryz.func16 ⟨s_FindHalf_L0_s,trivial⟩ fun _=>by kernel_rfl
noncomputable def w_sameTexts_o:List (Ent1 Tryz.prog):=[]
def w_sameTexts_L0_h:Sh:=⟨[(0,false,[.sl .arg .str]),(1,false,[.sl .arg .str]),(5,false,[.int .i64])],[]⟩
noncomputable def w_sameTexts_x:Fx:=⟨34,Tryz.f34,[(0,la ⟨[0,1,5],[],false,0⟩ ⟨[4],[],false,0⟩)],0⟩
noncomputable def w_sameTexts_L0_T (v0 v1:List Bytes)(v2:Int)(a:Unit):Tr (Stp (Unit) ((Unit))):=
 .grd ((decide (0≤v2))&&(decide (v2<(v0.length:Int))))<|
 .grd ((decide (0≤v2))&&(decide (v2<(v1.length:Int))))<|
 .ite (!((v0.getD v2.toNat [])==(v1.getD v2.toNat []))) (.ret (.out ()))<|
 .ret (.next ())
noncomputable def w_sameTexts_L0_d:w_sameTexts_L0_h.V→LC w_sameTexts_L0_h (Unit) ((Unit)) (((Unit))⊕(Int×Unit)):=fun(v0,v1,v2,_)=>⟨v2,(),fun v2 _=>(v0,v1,v2,()),fun v2 _=>(decide (v2<(v0.length:Int))),w_sameTexts_L0_T v0 v1,up,1,(Int.toNat ((v0.length:Int)-v2)),.inl,fun i a=> .inr (i,a),fun _ k w=>Sum.elim (fun _=>k .ret (Sh.enc ⟨[(4,false,[.bool])],[]⟩ (false,()))) (fun _=>k (.exit 0) (Sh.enc ⟨[(4,false,[.undef])],[]⟩ ())) w⟩
theorem w_sameTexts_L0_s:LS Tryz.prog w_sameTexts_x [0] (leC 0 w_sameTexts_L0_h w_sameTexts_L0_d):=loopC st (orcOf_ok w_sameTexts_o) _ w_sameTexts_L0_d [] trivial (by kernel_rfl) (fun _=>by kernel_rfl) fun _ _ _ _ _ _=>by kernel_rfl
theorem w_sameTexts_L0_k {v0 v1:List Bytes}{v2:Int}(h0:0≤v2)(h1:(v0.length:Int)≤4611686018427387904)(h2:(v0.length:Int)≤(v1.length:Int)):(w_sameTexts_L0_d (v0,v1,v2,())).U (v0.length:Int) (fun _ _=>True) (fun _=>True):=
 LC.okU (i:=v2) (a:=()) (fun _ _=>rfl) (fun _=>rfl) rfl h0 h1 trivial fun v2 _ hj hk hv=>by
  refine Tr.G2 ?_ fun _=>Tr.G2 ?_ fun _=>Tr.Z (by kernel_rfl)
  all_goals (grind)
noncomputable def w_sameTexts:FT (List Bytes×List Bytes×Unit) (Bool) (fun x=>sL sS x.1∧sL sS x.2.1) (fun _ _=>True):=⟨fun(x0,x1,_)=>
  .ite ((x0.length:Int) != (x1.length:Int)) (.ret false)<|
  .lp (w_sameTexts_L0_d (x0,x1,0,())).lp fun w1=> .sum w1 (fun _=>
  .ret false)<|
  fun _=>
  .ret true,
 fun(x0,x1,_) hp=>by
  refine Tr.I (fun _=>Tr.R trivial) fun _=>Tr.L (w_sameTexts_L0_k ?_ ?_ ?_) (fun _ _=>Tr.Sr (Tr.R trivial)) (fun _ _=>Tr.Sl (Tr.R trivial))
  all_goals ((try simp only[w_sameTexts_L0_d,LC.lp,LC.ct,Ct.lp]at*)<;>grind)⟩
noncomputable def w_sameTexts_e:=entT st w_sameTexts_x w_sameTexts_o [(leC 0 w_sameTexts_L0_h w_sameTexts_L0_d)] (ks:=[.sc (.sl .str),.sc (.sl .str)]) w_sameTexts (fun v=>[(false,[.c (.bool v)])]) Tryz.func34 ⟨w_sameTexts_L0_s,trivial⟩ fun _=>by kernel_rfl
noncomputable def s_FindConn_o:List (Ent1 Tryz.prog):=[]
def s_FindConn_L0_h:Sh:=⟨[(2,false,[.ptr 0 0]),(3,false,[.ptr 1 0]),(5,false,[.int .i64])],[.box [.st .tabl [.sl .arg,.sl .arg]],.box [.st .tupl []]]⟩
noncomputable def s_FindConn_x:Fx:=⟨37,Tryz.f37,[(0,la ⟨[2,3,5],[],false,0⟩ ⟨[4],[],false,0⟩)],0⟩
noncomputable def s_FindConn_L0_T (v1:Tabl)(v2:Tupl)(v0:Int)(a:Unit):Tr (Stp (Unit) ((Int))):=
 .grd ((decide (0≤v0))&&(decide (v0<(v1.conns.length:Int))))<|
 .ite (((v1.conns.getD v0.toNat (Ty.zero .conn)).tuple.ip==v2.ip)&&(((v1.conns.getD v0.toNat (Ty.zero .conn)).tuple.port==v2.port)&&(((v1.conns.getD v0.toNat (Ty.zero .conn)).tuple.my==v2.my)&&true))) (.ret (.out v0))<|
 .ret (.next ())
noncomputable def s_FindConn_L0_d:s_FindConn_L0_h.V→LC s_FindConn_L0_h (Unit) ((Int)) (((Int))⊕(Int×Unit)):=fun(v0,v1,v2,_)=>⟨v0,(),fun v0 _=>(v0,v1,v2,()),fun v0 _=>(decide (v0<(v1.conns.length:Int))),s_FindConn_L0_T v1 v2,up,1,(Int.toNat ((v1.conns.length:Int)-v0)),.inl,fun i a=> .inr (i,a),fun _ k w=>Sum.elim (fun p=>k .ret (Sh.enc ⟨[(4,false,[.int .i64])],[]⟩ (p,()))) (fun _=>k (.exit 0) (Sh.enc ⟨[(4,false,[.undef])],[]⟩ ())) w⟩
theorem s_FindConn_L0_s:LS Tryz.prog s_FindConn_x [0] (leC 0 s_FindConn_L0_h s_FindConn_L0_d):=loopC st (orcOf_ok s_FindConn_o) _ s_FindConn_L0_d [] trivial (by kernel_rfl) (fun _=>by kernel_rfl) fun _ _ _ _ _ _=>by kernel_rfl
theorem s_FindConn_L0_k {v0:Int}{v1:Tabl}{v2:Tupl}(h0:0≤v0)(h1:(v1.conns.length:Int)≤4611686018427387904):(s_FindConn_L0_d (v0,v1,v2,())).U (v1.conns.length:Int) (fun _ _=>True) (fun p=>v0≤p∧p<(v1.conns.length:Int)):=
 LC.okU (i:=v0) (a:=()) (fun _ _=>rfl) (fun _=>rfl) rfl h0 h1 trivial fun v0 _ hj hk hv=>by
  refine Tr.G2 ?_ fun _=>Tr.I (fun _=>Tr.Ro ?_) fun _=>Tr.Rn trivial
  all_goals (grind)
noncomputable def s_FindConn:FT (Tabl×Tupl×Unit) (Int) (fun x=>wS x.1.conns) (fun x v=> -1≤v∧v<x.1.conns.length):=⟨fun(x0,x1,_)=>
  .lp (s_FindConn_L0_d (0,x0,x1,())).lp fun w1=> .sum w1 (fun p1a0=>
  .ret p1a0)<|
  fun _=>
  .ret (-1),
 fun(x0,x1,_) hp=>by
  refine Tr.L (s_FindConn_L0_k ?_ ?_) (fun _ _=>Tr.Sr (Tr.R ?_)) (fun p1a0 _=>Tr.Sl (Tr.R ?_))
  all_goals ((try simp only[s_FindConn_L0_d,LC.lp,LC.ct,Ct.lp]at*)<;>grind)⟩
noncomputable def s_FindConn_e:=entT st s_FindConn_x s_FindConn_o [(leC 0 s_FindConn_L0_h s_FindConn_L0_d)] (ks:=[.st .tabl,.st .tupl]) s_FindConn (fun v=>[(false,[.c (.int .i64 v)])]) Tryz.func37 ⟨s_FindConn_L0_s,trivial⟩ fun _=>by kernel_rfl
noncomputable def s_TupleOf:FF (Int×Segm×Unit) (Tupl):=⟨fun(x0,x1,_)=>
  .ret (⟨x0,x1.from_,x1.to⟩:Tupl)⟩
noncomputable def s_TupleOf_e:=ent1 st Tryz.func38 [] (ks:=[.sc (.int .i64),.st .segm]) s_TupleOf (fun v=>[(true,q_tupl v)]) fun _=>by kernel_rfl
noncomputable def s_l1New_o:List (Ent1 Tryz.prog):=[]
def s_l1New_L0_h:Sh:=⟨[(0,false,[.sl .arg .u8]),(3,false,[.int .i64]),(4,false,[.int .i64])],[]⟩
noncomputable def s_l1New_x:Fx:=⟨43,Tryz.f43,[(0,la ⟨[0,3,4],[],false,0⟩ ⟨[0,2,3],[],false,0⟩)],0⟩
noncomputable def s_l1New_L0_T (v0:List Int)(v2:Int)(a:Int):Tr (Stp (Int) ((Int))):=
 .ite (decide (v2<4000)) (.grd ((decide (0≤v2))&&(decide (v2<(v0.length:Int))))<|
  .val (IntKind.wrap .i64 ((IntKind.wrap .i64 (a*131))+(IntKind.wrap .i64 (v0.getD v2.toNat 0)))) fun e1=>
  .ret (.next (bits .and .i64 (IntKind.wrap .i64 (e1+7)) 1073741823)))<|
 .ret (.out a)
noncomputable def s_l1New_L0_d:s_l1New_L0_h.V→LC s_l1New_L0_h (Int) ((Int)) (((Int))⊕(Int×Int)):=fun(v0,v1,v2,_)=>⟨v2,v1,fun v2 a=>(v0,a,v2,()),fun v2 _=>(decide (v2<(v0.length:Int))),s_l1New_L0_T v0,up,1,(Int.toNat ((v0.length:Int)-v2)),.inl,fun i a=> .inr (i,a),fun _ k w=>Sum.elim (fun p=>k (.exit 0) (Sh.enc ⟨[(0,false,[.sl .arg .u8]),(2,false,[.undef]),(3,false,[.int .i64])],[]⟩ (v0,p,()))) (fun x=>k (.exit 0) (Sh.enc ⟨[(0,false,[.sl .arg .u8]),(2,false,[.undef]),(3,false,[.int .i64])],[]⟩ (v0,x.2,()))) w⟩
theorem s_l1New_L0_s:LS Tryz.prog s_l1New_x [0] (leC 0 s_l1New_L0_h s_l1New_L0_d):=loopC st (orcOf_ok s_l1New_o) _ s_l1New_L0_d [] trivial (by kernel_rfl) (fun _=>by kernel_rfl) fun _ _ _ _ _ _=>by kernel_rfl
theorem s_l1New_L0_k {v0:List Int}{v1 v2:Int}(h0:0≤v2)(h1:(v0.length:Int)≤4611686018427387904):(s_l1New_L0_d (v0,v1,v2,())).U (v0.length:Int) (fun _ _=>True) (fun _=>True):=
 LC.okU (i:=v2) (a:=v1) (fun _ _=>rfl) (fun _=>rfl) rfl h0 h1 trivial fun v2 v1 hj hk hv=>by
  refine Tr.I (fun _=>Tr.G2 ?_ fun _=>Tr.Z (by kernel_rfl)) fun _=>Tr.Ro trivial
  all_goals (grind)
noncomputable def s_l1New:FT (List Int×Unit) (Curs) (fun x=>x.1.length≤1048576) (fun x v=>sm_curs v):=⟨fun(x0,_)=>
  .lp (s_l1New_L0_d (x0,(IntKind.wrap .i64 (28655+(x0.length:Int))),0,())).lp fun w2=> .sum w2 (fun p2a0=>
  .ret (⟨x0,0,p2a0⟩:Curs))<|
  fun(_,a2_0)=>
  .ret (⟨x0,0,a2_0⟩:Curs),
 fun(x0,_) hp=>by
  refine Tr.L (s_l1New_L0_k ?_ ?_) (fun a2_0 _=>Tr.Sr (Tr.R ?_)) (fun p2a0 _=>Tr.Sl (Tr.R ?_))
  all_goals ((try simp only[s_l1New_L0_d,LC.lp,LC.ct,Ct.lp]at*)<;>grind)⟩
noncomputable def s_l1New_e:=entT st s_l1New_x s_l1New_o [(leC 0 s_l1New_L0_h s_l1New_L0_d)] (ks:=[.sc (.sl .u8)]) s_l1New (fun v=>[rb .curs v]) Tryz.func43 ⟨s_l1New_L0_s,trivial⟩ fun _=>by kernel_rfl
noncomputable def i_SeqAdd:FF (Int×Int×Unit) (Int):=⟨fun(x0,x1,_)=>
  .ret (bits .and .i64 (IntKind.wrap .i64 (x0+x1)) 4294967295)⟩
noncomputable def i_SeqAdd_e:=ent1 st Tryz.func50 [] (ks:=[.sc (.int .i64),.sc (.int .i64)]) i_SeqAdd (fun v=>[(false,[.c (.int .i64 v)])]) fun _=>by kernel_rfl
noncomputable def s_SameHalves_o:List (Ent1 Tryz.prog):=[]
def s_SameHalves_L0_h:Sh:=⟨[(0,false,[.sl .arg .half]),(1,false,[.sl .arg .half]),(5,false,[.int .i64])],[]⟩
noncomputable def s_SameHalves_x:Fx:=⟨65,Tryz.f65,[(0,la ⟨[0,1,5],[],false,0⟩ ⟨[4],[],false,0⟩)],0⟩
noncomputable def s_SameHalves_L0_T (v0 v1:List Half)(v2:Int)(a:Unit):Tr (Stp (Unit) ((Unit))):=
 .grd ((decide (0≤v2))&&(decide (v2<(v0.length:Int))))<|
 .grd ((decide (0≤v2))&&(decide (v2<(v1.length:Int))))<|
 .ite (!((((v0.getD v2.toNat (Ty.zero .half)).tuple.ip==(v1.getD v2.toNat (Ty.zero .half)).tuple.ip)&&(((v0.getD v2.toNat (Ty.zero .half)).tuple.port==(v1.getD v2.toNat (Ty.zero .half)).tuple.port)&&(((v0.getD v2.toNat (Ty.zero .half)).tuple.my==(v1.getD v2.toNat (Ty.zero .half)).tuple.my)&&true)))&&(((v0.getD v2.toNat (Ty.zero .half)).iss==(v1.getD v2.toNat (Ty.zero .half)).iss)&&(((v0.getD v2.toNat (Ty.zero .half)).irs==(v1.getD v2.toNat (Ty.zero .half)).irs)&&((((v0.getD v2.toNat (Ty.zero .half)).opts.mss==(v1.getD v2.toNat (Ty.zero .half)).opts.mss)&&(((v0.getD v2.toNat (Ty.zero .half)).opts.scale==(v1.getD v2.toNat (Ty.zero .half)).opts.scale)&&(((v0.getD v2.toNat (Ty.zero .half)).opts.sack==(v1.getD v2.toNat (Ty.zero .half)).opts.sack)&&(((v0.getD v2.toNat (Ty.zero .half)).opts.stamp==(v1.getD v2.toNat (Ty.zero .half)).opts.stamp)&&(((v0.getD v2.toNat (Ty.zero .half)).opts.val==(v1.getD v2.toNat (Ty.zero .half)).opts.val)&&(((v0.getD v2.toNat (Ty.zero .half)).opts.echo==(v1.getD v2.toNat (Ty.zero .half)).opts.echo)&&true))))))&&(((v0.getD v2.toNat (Ty.zero .half)).age==(v1.getD v2.toNat (Ty.zero .half)).age)&&(((v0.getD v2.toNat (Ty.zero .half)).window==(v1.getD v2.toNat (Ty.zero .half)).window)&&true))))))) (.ret (.out ()))<|
 .ret (.next ())
noncomputable def s_SameHalves_L0_d:s_SameHalves_L0_h.V→LC s_SameHalves_L0_h (Unit) ((Unit)) (((Unit))⊕(Int×Unit)):=fun(v0,v1,v2,_)=>⟨v2,(),fun v2 _=>(v0,v1,v2,()),fun v2 _=>(decide (v2<(v0.length:Int))),s_SameHalves_L0_T v0 v1,up,1,(Int.toNat ((v0.length:Int)-v2)),.inl,fun i a=> .inr (i,a),fun _ k w=>Sum.elim (fun _=>k .ret (Sh.enc ⟨[(4,false,[.bool])],[]⟩ (false,()))) (fun _=>k (.exit 0) (Sh.enc ⟨[(4,false,[.undef])],[]⟩ ())) w⟩
theorem s_SameHalves_L0_s:LS Tryz.prog s_SameHalves_x [0] (leC 0 s_SameHalves_L0_h s_SameHalves_L0_d):=loopC st (orcOf_ok s_SameHalves_o) _ s_SameHalves_L0_d [] trivial (by kernel_rfl) (fun _=>by kernel_rfl) fun _ _ _ _ _ _=>by kernel_rfl
theorem s_SameHalves_L0_k {v0 v1:List Half}{v2:Int}(h0:0≤v2)(h1:(v0.length:Int)≤4611686018427387904)(h2:(v0.length:Int)≤(v1.length:Int)):(s_SameHalves_L0_d (v0,v1,v2,())).U (v0.length:Int) (fun _ _=>True) (fun _=>True):=
 LC.okU (i:=v2) (a:=()) (fun _ _=>rfl) (fun _=>rfl) rfl h0 h1 trivial fun v2 _ hj hk hv=>by
  refine Tr.G2 ?_ fun _=>Tr.G2 ?_ fun _=>Tr.Z (by kernel_rfl)
  all_goals (grind)
noncomputable def s_SameHalves:FT (List Half×List Half×Unit) (Bool) (fun x=>sS x.1∧sS x.2.1) (fun _ _=>True):=⟨fun(x0,x1,_)=>
  .ite ((x0.length:Int) != (x1.length:Int)) (.ret false)<|
  .lp (s_SameHalves_L0_d (x0,x1,0,())).lp fun w1=> .sum w1 (fun _=>
  .ret false)<|
  fun _=>
  .ret true,
 fun(x0,x1,_) hp=>by
  refine Tr.I (fun _=>Tr.R trivial) fun _=>Tr.L (s_SameHalves_L0_k ?_ ?_ ?_) (fun _ _=>Tr.Sr (Tr.R trivial)) (fun _ _=>Tr.Sl (Tr.R trivial))
  all_goals ((try simp only[s_SameHalves_L0_d,LC.lp,LC.ct,Ct.lp]at*)<;>grind)⟩
noncomputable def s_SameHalves_e:=entT st s_SameHalves_x s_SameHalves_o [(leC 0 s_SameHalves_L0_h s_SameHalves_L0_d)] (ks:=[.sc (.sl .half),.sc (.sl .half)]) s_SameHalves (fun v=>[(false,[.c (.bool v)])]) Tryz.func65 ⟨s_SameHalves_L0_s,trivial⟩ fun _=>by kernel_rfl
noncomputable def s_l4Rest:FF (Int×Unit) (Int):=⟨fun(x0,_)=>
  .ite (decide ((x0.tmod 4294967296)<0)) (.ret (IntKind.wrap .i64 ((x0.tmod 4294967296)+4294967296)))<|
  .ret (x0.tmod 4294967296)⟩
@[grind=] theorem s_l4Rest_eq (x0:Int):s_l4Rest.f (x0,())=(x0%4294967296):=by
 simp only[s_l4Rest,FF.f,Tr.nice]
 rcases Int.lt_or_le x0 0 with h|h
 ·rw[(tmod_pos 4294967296).2 h,wrap64_def]
  cases hd:decide (-(-x0%4294967296)<0)with
  |true=>simp only[decide_eq_true_eq]at hd;simp only[cond_true];omega
  |false=>simp only[decide_eq_false_iff_not]at hd;simp only[cond_false];omega
 ·rw[(tmod_pos 4294967296).1 h,wrap64_def]
  cases hd:decide (x0%4294967296<0)with
  |true=>simp only[decide_eq_true_eq]at hd;omega
  |false=>rfl
noncomputable def s_l4Rest_e:=ent1 st Tryz.func67 [] (ks:=[.sc (.int .i64)]) s_l4Rest (fun v=>[(false,[.c (.int .i64 v)])]) fun _=>by kernel_rfl
noncomputable def i_within:FF (Int×Int×Int×Unit) (Bool):=⟨fun(x0,x1,x2,_)=>
  .ite (decide (x1≤x0)) (.ret (decide (x0≤x2)))<|
  .ret false⟩
@[grind=] theorem i_within_eq (x0 x1 x2:Int):i_within.f (x0,x1,x2,())=(decide (x1≤x0)&&decide (x0≤x2)):=by
 simp only[i_within,FF.f,Tr.nice]
 cases decide (x1≤x0)<;>rfl
noncomputable def i_within_e:=ent1 st Tryz.func76 [] (ks:=[.sc (.int .i64),.sc (.int .i64),.sc (.int .i64)]) i_within (fun v=>[(false,[.c (.bool v)])]) fun _=>by kernel_rfl
noncomputable def s_Has:FF (Segm×Int×Unit) (Bool):=⟨fun(x0,x1,_)=>
  .ret ((bits .and .i64 x0.flags x1)==x1)⟩
noncomputable def s_Has_e:=ent1 st Tryz.func89 [] (ks:=[.st .segm,.sc (.int .i64)]) s_Has (fun v=>[(false,[.c (.bool v)])]) fun _=>by kernel_rfl
noncomputable def s_DropHalf:FT (List Half×Tupl×Unit) (List Half) (fun x=>sS x.1) (fun x v=>sS v):=⟨fun(x0,x1,_)=>
  .cal s_FindHalf.c (x0,x1,()) fun c1=>
  .ite (decide (c1<0)) (.grd (Nat.ble ((2*(0+x0.length)+1024)*96) maxSl)<|
   .ret ([]++x0))<|
  .grd ((decide (0≤c1))&&(decide (c1≤(x0.length:Int))))<|
  .grd (Nat.ble ((2*(0+((x0.take c1.toNat).drop 0).length)+1024)*96) maxSl)<|
  .grd (((decide (0≤(IntKind.wrap .i64 (c1+1))))&&(decide ((IntKind.wrap .i64 (c1+1))≤(x0.length:Int))))&&(decide ((x0.length:Int)≤(x0.length:Int))))<|
  .grd (Nat.ble ((2*(([]++((x0.take c1.toNat).drop 0)).length+((x0.take ((x0.length:Int).toNat)).drop ((IntKind.wrap .i64 (c1+1)).toNat)).length)+1024)*96) maxSl)<|
  .val (([]++((x0.take c1.toNat).drop 0))++((x0.take ((x0.length:Int).toNat)).drop ((IntKind.wrap .i64 (c1+1)).toNat))) fun l2=>
  .ret l2,
 fun(x0,x1,_) hp=>by
  refine Tr.C ?_ fun _ _ _=>Tr.I (fun _=>Tr.Gb ?_ fun _=>Tr.R ?_) fun _=>Tr.G2 ?_ fun _=>Tr.Gb ?_ fun _=>Tr.G3 ?_ fun _=>Tr.Gb ?_ fun _=>Tr.V fun _ _=>Tr.R ?_
  all_goals (grind)⟩
noncomputable def s_DropHalf_e:=ent0 st Tryz.func90 [s_FindHalf_e] (ks:=[.sc (.sl .half),.st .tupl]) s_DropHalf (fun v=>[(false,[sc (.o true) .half v])]) fun _=>by kernel_rfl
noncomputable def s_l1In:FF (Int×Int×Int×Unit) (Bool):=⟨fun(x0,x1,x2,_)=>
  .ite (decide (x1≤x0)) (.ret (decide (x0≤x2)))<|
  .ret false⟩
@[grind=] theorem s_l1In_eq (x0 x1 x2:Int):s_l1In.f (x0,x1,x2,())=(decide (x1≤x0)&&decide (x0≤x2)):=by
 simp only[s_l1In,FF.f,Tr.nice]
 cases decide (x1≤x0)<;>rfl
noncomputable def s_l1In_e:=ent1 st Tryz.func94 [] (ks:=[.sc (.int .i64),.sc (.int .i64),.sc (.int .i64)]) s_l1In (fun v=>[(false,[.c (.bool v)])]) fun _=>by kernel_rfl
noncomputable def i_LimitsOk:FT (Limi×Unit) (Bool) (fun _=>True) (fun x v=>(v=true→x.1.halves≤64∧x.1.waiting≤16∧x.1.conns≤16)):=⟨fun(x0,_)=>
  .val (i_within.f (x0.halves,1,64,())) fun c1=>
  .ite c1 (.val (i_within.f (x0.waiting,1,16,())) fun c2=>
   .ite c2 (.val (i_within.f (x0.conns,1,16,())) fun c3=>
    .ite c3 (.val (i_within.f (x0.chal,0,1000,())) fun c4=>
     .ret c4)<|
    .ret false)<|
   .ret false)<|
  .ret false,
 fun(x0,_) hp=>by
  refine Tr.V fun _ _=>Tr.I (fun _=>Tr.V fun _ _=>Tr.I (fun _=>Tr.V fun _ _=>Tr.I (fun _=>Tr.V fun _ _=>Tr.R ?_) fun _=>Tr.R ?_) fun _=>Tr.R ?_) fun _=>Tr.R ?_
  all_goals (grind)⟩
noncomputable def i_LimitsOk_e:=ent0 st Tryz.func96 [i_within_e] (ks:=[.st .limi]) i_LimitsOk (fun v=>[(false,[.c (.bool v)])]) fun _=>by kernel_rfl
noncomputable def s_LimitsOk:FT (Limi×Unit) (Bool) (fun _=>True) (fun x v=>(v=true→x.1.halves≤64∧x.1.waiting≤16∧x.1.conns≤16)):=⟨fun(x0,_)=>
  .val (s_l1In.f (x0.halves,1,64,())) fun c1=>
  .ite c1 (.val (s_l1In.f (x0.waiting,1,16,())) fun c2=>
   .ite c2 (.val (s_l1In.f (x0.conns,1,16,())) fun c3=>
    .ite c3 (.val (s_l1In.f (x0.chal,0,1000,())) fun c4=>
     .ret c4)<|
    .ret false)<|
   .ret false)<|
  .ret false,
 fun(x0,_) hp=>by
  refine Tr.V fun _ _=>Tr.I (fun _=>Tr.V fun _ _=>Tr.I (fun _=>Tr.V fun _ _=>Tr.I (fun _=>Tr.V fun _ _=>Tr.R ?_) fun _=>Tr.R ?_) fun _=>Tr.R ?_) fun _=>Tr.R ?_
  all_goals (grind)⟩
noncomputable def s_LimitsOk_e:=ent0 st Tryz.func97 [s_l1In_e] (ks:=[.st .limi]) s_LimitsOk (fun v=>[(false,[.c (.bool v)])]) fun _=>by kernel_rfl
noncomputable def i_Aged_o:List (Ent1 Tryz.prog):=[]
def i_Aged_L0_h:Sh:=⟨[(3,false,[.own 0]),(7,false,[.sl .arg .entr]),(8,false,[.int .i64]),(9,false,[.int .i64])],[.arr .entr false true]⟩
noncomputable def i_Aged_x:Fx:=⟨100,Tryz.f100,[(0,la ⟨[3,7,8,9],[],false,0⟩ ⟨[2,3],[],false,0⟩)],0⟩
noncomputable def i_Aged_L0_T (v0:List Entr)(v2:Int)(a:List Entr):Tr (Stp (List Entr) (Empty)):=
 .grd ((decide (0≤v2))&&(decide (v2<(v0.length:Int))))<|
 .ite (decide ((IntKind.wrap .i64 ((v0.getD v2.toNat (Ty.zero .entr)).age+1))≤9)) (.grd (Nat.ble ((2*(a.length+1)+1024)*24) maxSl)<|
  .val (a++[({(v0.getD v2.toNat (Ty.zero .entr))with age:=(IntKind.wrap .i64 ((v0.getD v2.toNat (Ty.zero .entr)).age+1))}:Entr)]) fun l1=>
  .ret (.next l1))<|
 .ret (.next a)
noncomputable def i_Aged_L0_d:i_Aged_L0_h.V→LC i_Aged_L0_h (List Entr) (Empty) (Int×(List Entr)):=fun(v0,v1,v2,v3,_)=>⟨v2,v3,fun v2 a=>(v0,v1,v2,a,()),fun v2 _=>(decide (v2<v1)),i_Aged_L0_T v0,up,1,(Int.toNat (v1-v2)),(fun p=>Empty.elim p),fun i a=>(i,a),fun _ k x=>k (.exit 0) (Sh.enc ⟨[(2,false,[.undef]),(3,false,[.own 0])],[.arr .entr false true]⟩ (x.2,()))⟩
theorem i_Aged_L0_s:LS Tryz.prog i_Aged_x [0] (leC 0 i_Aged_L0_h i_Aged_L0_d):=loopC st (orcOf_ok i_Aged_o) _ i_Aged_L0_d [] trivial (by kernel_rfl) (fun _=>by kernel_rfl) fun _ _ _ _ _ _=>by kernel_rfl
theorem i_Aged_L0_k {v0 v3:List Entr}{v1 v2:Int}(h0:0≤v2)(h1:v1≤4611686018427387904)(h2:sS v0)(h3:v1≤4294967296)(h4:v1≤(v0.length:Int))(h5:(v3.length:Int)≤v2):(i_Aged_L0_d (v0,v1,v2,v3,())).U v1 (fun v2 a=>(a.length:Int)≤v2) (fun _=>True):=
 LC.okU (i:=v2) (a:=v3) (fun _ _=>rfl) (fun _=>rfl) rfl h0 h1 h5 fun v2 v3 hj hk hv=>by
  refine Tr.G2 ?_ fun _=>Tr.I (fun _=>Tr.Gb ?_ fun _=>Tr.V fun _ _=>Tr.Rn ?_) fun _=>Tr.Rn ?_
  all_goals (grind)
noncomputable def i_Aged:FT (List Entr×Unit) (List Entr) (fun x=>sS x.1) (fun x v=>sS v):=⟨fun(x0,_)=>
  .lp (i_Aged_L0_d (x0,(x0.length:Int),0,[],())).lp fun(_,a2_0)=>
  .ret a2_0,
 fun(x0,_) hp=>by
  refine Tr.L (i_Aged_L0_k ?_ ?_ ?_ ?_ ?_ ?_) (fun a2_0 _=>Tr.R ?_) (fun p=>Empty.elim p)
  all_goals ((try simp only[i_Aged_L0_d,LC.lp,LC.ct,Ct.lp]at*)<;>grind)⟩
noncomputable def i_Aged_e:=entT st i_Aged_x i_Aged_o [(leC 0 i_Aged_L0_h i_Aged_L0_d)] (ks:=[.sc (.sl .entr)]) i_Aged (fun v=>[(false,[sc (.o true) .entr v])]) Tryz.func100 ⟨i_Aged_L0_s,trivial⟩ fun _=>by kernel_rfl
noncomputable def s_Aged_o:List (Ent1 Tryz.prog):=[]
def s_Aged_L0_h:Sh:=⟨[(0,false,[.sl .arg .entr]),(3,false,[.own 0]),(4,false,[.int .i64])],[.arr .entr false true]⟩
noncomputable def s_Aged_x:Fx:=⟨107,Tryz.f107,[(0,la ⟨[0,3,4],[],false,0⟩ ⟨[2,3],[],false,0⟩)],0⟩
noncomputable def s_Aged_L0_T (v0:List Entr)(v1:Int)(a:List Entr):Tr (Stp (List Entr) (Empty)):=
 .grd ((decide (0≤v1))&&(decide (v1<(v0.length:Int))))<|
 .ite (decide ((v0.getD v1.toNat (Ty.zero .entr)).age<9)) (.grd (Nat.ble ((2*(a.length+1)+1024)*24) maxSl)<|
  .val (a++[({(v0.getD v1.toNat (Ty.zero .entr))with age:=(IntKind.wrap .i64 ((v0.getD v1.toNat (Ty.zero .entr)).age+1))}:Entr)]) fun l1=>
  .ret (.next l1))<|
 .ret (.next a)
noncomputable def s_Aged_L0_d:s_Aged_L0_h.V→LC s_Aged_L0_h (List Entr) (Empty) (Int×(List Entr)):=fun(v0,v1,v2,_)=>⟨v1,v2,fun v1 a=>(v0,v1,a,()),fun v1 _=>(decide (v1<(v0.length:Int))),s_Aged_L0_T v0,up,1,(Int.toNat ((v0.length:Int)-v1)),(fun p=>Empty.elim p),fun i a=>(i,a),fun _ k x=>k (.exit 0) (Sh.enc ⟨[(2,false,[.undef]),(3,false,[.own 0])],[.arr .entr false true]⟩ (x.2,()))⟩
theorem s_Aged_L0_s:LS Tryz.prog s_Aged_x [0] (leC 0 s_Aged_L0_h s_Aged_L0_d):=loopC st (orcOf_ok s_Aged_o) _ s_Aged_L0_d [] trivial (by kernel_rfl) (fun _=>by kernel_rfl) fun _ _ _ _ _ _=>by kernel_rfl
theorem s_Aged_L0_k {v0 v2:List Entr}{v1:Int}(h0:0≤v1)(h1:(v0.length:Int)≤4611686018427387904)(h2:sS v0)(h3:(v2.length:Int)≤v1):(s_Aged_L0_d (v0,v1,v2,())).U (v0.length:Int) (fun v1 a=>(a.length:Int)≤v1) (fun _=>True):=
 LC.okU (i:=v1) (a:=v2) (fun _ _=>rfl) (fun _=>rfl) rfl h0 h1 h3 fun v1 v2 hj hk hv=>by
  refine Tr.G2 ?_ fun _=>Tr.I (fun _=>Tr.Gb ?_ fun _=>Tr.V fun _ _=>Tr.Rn ?_) fun _=>Tr.Rn ?_
  all_goals (grind)
noncomputable def s_Aged:FT (List Entr×Unit) (List Entr) (fun x=>sS x.1) (fun x v=>sS v∧v.length≤x.1.length):=⟨fun(x0,_)=>
  .lp (s_Aged_L0_d (x0,0,[],())).lp fun(_,a2_0)=>
  .ret a2_0,
 fun(x0,_) hp=>by
  refine Tr.L (s_Aged_L0_k ?_ ?_ ?_ ?_) (fun a2_0 _=>Tr.R ?_) (fun p=>Empty.elim p)
  all_goals ((try simp only[s_Aged_L0_d,LC.lp,LC.ct,Ct.lp]at*)<;>grind)⟩
noncomputable def s_Aged_e:=entT st s_Aged_x s_Aged_o [(leC 0 s_Aged_L0_h s_Aged_L0_d)] (ks:=[.sc (.sl .entr)]) s_Aged (fun v=>[(false,[sc (.o true) .entr v])]) Tryz.func107 ⟨s_Aged_L0_s,trivial⟩ fun _=>by kernel_rfl
noncomputable def s_SameLink_o:List (Ent1 Tryz.prog):=[]
def s_SameLink_L0_h:Sh:=⟨[(2,false,[.ptr 0 0]),(3,false,[.ptr 1 0]),(5,false,[.int .i64])],[.box [.st .link [.sl .arg]],.box [.st .link [.sl .arg]]]⟩
noncomputable def s_SameLink_x:Fx:=⟨108,Tryz.f108,[(0,la ⟨[2,3,5],[],false,0⟩ ⟨[4],[],false,0⟩),(3000001,rA 0 26)],0⟩
noncomputable def s_SameLink_L0_T (v1 v2:Link)(v0:Int)(a:Unit):Tr (Stp (Unit) ((Unit))):=
 .grd ((decide (0≤v0))&&(decide (v0<(v1.cache.length:Int))))<|
 .grd ((decide (0≤v0))&&(decide (v0<(v2.cache.length:Int))))<|
 .ite (!(((v1.cache.getD v0.toNat (Ty.zero .entr)).ip==(v2.cache.getD v0.toNat (Ty.zero .entr)).ip)&&(((v1.cache.getD v0.toNat (Ty.zero .entr)).hw==(v2.cache.getD v0.toNat (Ty.zero .entr)).hw)&&(((v1.cache.getD v0.toNat (Ty.zero .entr)).age==(v2.cache.getD v0.toNat (Ty.zero .entr)).age)&&true)))) (.ret (.out ()))<|
 .ret (.next ())
noncomputable def s_SameLink_L0_d:s_SameLink_L0_h.V→LC s_SameLink_L0_h (Unit) ((Unit)) (((Unit))⊕(Int×Unit)):=fun(v0,v1,v2,_)=>⟨v0,(),fun v0 _=>(v0,v1,v2,()),fun v0 _=>(decide (v0<(v1.cache.length:Int))),s_SameLink_L0_T v1 v2,up,1,(Int.toNat ((v1.cache.length:Int)-v0)),.inl,fun i a=> .inr (i,a),fun _ k w=>Sum.elim (fun _=>k .ret (Sh.enc ⟨[(4,false,[.bool])],[]⟩ (false,()))) (fun _=>k (.exit 0) (Sh.enc ⟨[(4,false,[.undef])],[]⟩ ())) w⟩
theorem s_SameLink_L0_s:LS Tryz.prog s_SameLink_x [0] (leC 0 s_SameLink_L0_h s_SameLink_L0_d):=loopC st (orcOf_ok s_SameLink_o) _ s_SameLink_L0_d [] trivial (by kernel_rfl) (fun _=>by kernel_rfl) fun _ _ _ _ _ _=>by kernel_rfl
theorem s_SameLink_L0_k {v0:Int}{v1 v2:Link}(h0:0≤v0)(h1:(v1.cache.length:Int)≤4611686018427387904)(h2:(v1.cache.length:Int)≤(v2.cache.length:Int)):(s_SameLink_L0_d (v0,v1,v2,())).U (v1.cache.length:Int) (fun _ _=>True) (fun _=>True):=
 LC.okU (i:=v0) (a:=()) (fun _ _=>rfl) (fun _=>rfl) rfl h0 h1 trivial fun v0 _ hj hk hv=>by
  refine Tr.G2 ?_ fun _=>Tr.G2 ?_ fun _=>Tr.Z (by kernel_rfl)
  all_goals (grind)
noncomputable def s_SameLink:FT (Link×Link×Unit) (Bool) (fun x=>sm_link x.1∧sm_link x.2.1) (fun _ _=>True):=⟨fun(x0,x1,_)=>
  .bnd (β:=Bool×Unit) (.ite (x0.mac != x1.mac) (.ret (true,()))<|
   .ite (x0.ip != x1.ip) (.ret (true,()))<|
   .ret (((x0.cache.length:Int) != (x1.cache.length:Int)),())) fun(u1a0,_)=>
  .ite u1a0 (.ret false)<|
  .lp (s_SameLink_L0_d (0,x0,x1,())).lp fun w2=> .sum w2 (fun _=>
  .ret false)<|
  fun _=>
  .ret true,
 fun(x0,x1,_) hp=>by
  refine Tr.B (Q':=fun _=>True) (Tr.F (by kernel_rfl) trivial) (fun(u1a0,_) _ _=>Tr.I (fun _=>Tr.R trivial) fun _=>Tr.L (s_SameLink_L0_k ?_ ?_ ?_) (fun _ _=>Tr.Sr (Tr.R trivial)) (fun _ _=>Tr.Sl (Tr.R trivial)))
  all_goals ((try simp only[s_SameLink_L0_d,LC.lp,LC.ct,Ct.lp,Tr.nice,letK]at*)<;>grind)⟩
noncomputable def s_SameLink_e:=entT st s_SameLink_x s_SameLink_o [(leC 0 s_SameLink_L0_h s_SameLink_L0_d)] (ks:=[.st .link,.st .link]) s_SameLink (fun v=>[(false,[.c (.bool v)])]) Tryz.func108 ⟨s_SameLink_L0_s,trivial⟩ fun _=>by kernel_rfl
noncomputable def s_InWindow:FF (Int×Int×Int×Unit) (Bool):=⟨fun(x0,x1,x2,_)=>
  .ite (decide (0<x2)) (.val (s_l4Rest.f (x0,())) fun c1=>
   .val (s_l4Rest.f (x1,())) fun c2=>
   .val (s_l4Rest.f ((IntKind.wrap .i64 (c1-c2)),())) fun c3=>
   .ret (decide (c3<x2)))<|
  .ret false⟩
noncomputable def s_InWindow_e:=ent1 st Tryz.func112 [s_l4Rest_e] (ks:=[.sc (.int .i64),.sc (.int .i64),.sc (.int .i64)]) s_InWindow (fun v=>[(false,[.c (.bool v)])]) fun _=>by kernel_rfl
noncomputable def s_SameReceiver_o:List (Ent1 Tryz.prog):=[]
def s_SameReceiver_L0_h:Sh:=⟨[(2,false,[.ptr 0 0]),(3,false,[.ptr 1 0]),(5,false,[.int .i64])],[.box [.st .recv [.sl .arg]],.box [.st .recv [.sl .arg]]]⟩
noncomputable def s_SameReceiver_x:Fx:=⟨116,Tryz.f116,[(0,la ⟨[2,3,5],[],false,0⟩ ⟨[4],[],false,0⟩),(3000001,rA 0 40)],0⟩
noncomputable def s_SameReceiver_L0_T (v1 v2:Recv)(v0:Int)(a:Unit):Tr (Stp (Unit) ((Unit))):=
 .grd ((decide (0≤v0))&&(decide (v0<(v1.held.length:Int))))<|
 .grd ((decide (0≤v0))&&(decide (v0<(v2.held.length:Int))))<|
 .ite (!(((v1.held.getD v0.toNat (Ty.zero .piec)).off==(v2.held.getD v0.toNat (Ty.zero .piec)).off)&&(((v1.held.getD v0.toNat (Ty.zero .piec)).text==(v2.held.getD v0.toNat (Ty.zero .piec)).text)&&true))) (.ret (.out ()))<|
 .ret (.next ())
noncomputable def s_SameReceiver_L0_d:s_SameReceiver_L0_h.V→LC s_SameReceiver_L0_h (Unit) ((Unit)) (((Unit))⊕(Int×Unit)):=fun(v0,v1,v2,_)=>⟨v0,(),fun v0 _=>(v0,v1,v2,()),fun v0 _=>(decide (v0<(v1.held.length:Int))),s_SameReceiver_L0_T v1 v2,up,1,(Int.toNat ((v1.held.length:Int)-v0)),.inl,fun i a=> .inr (i,a),fun _ k w=>Sum.elim (fun _=>k .ret (Sh.enc ⟨[(4,false,[.bool])],[]⟩ (false,()))) (fun _=>k (.exit 0) (Sh.enc ⟨[(4,false,[.undef])],[]⟩ ())) w⟩
theorem s_SameReceiver_L0_s:LS Tryz.prog s_SameReceiver_x [0] (leC 0 s_SameReceiver_L0_h s_SameReceiver_L0_d):=loopC st (orcOf_ok s_SameReceiver_o) _ s_SameReceiver_L0_d [] trivial (by kernel_rfl) (fun _=>by kernel_rfl) fun _ _ _ _ _ _=>by kernel_rfl
theorem s_SameReceiver_L0_k {v0:Int}{v1 v2:Recv}(h0:0≤v0)(h1:(v1.held.length:Int)≤4611686018427387904)(h2:(v1.held.length:Int)≤(v2.held.length:Int)):(s_SameReceiver_L0_d (v0,v1,v2,())).U (v1.held.length:Int) (fun _ _=>True) (fun _=>True):=
 LC.okU (i:=v0) (a:=()) (fun _ _=>rfl) (fun _=>rfl) rfl h0 h1 trivial fun v0 _ hj hk hv=>by
  refine Tr.G2 ?_ fun _=>Tr.G2 ?_ fun _=>Tr.Z (by kernel_rfl)
  all_goals (grind)
noncomputable def s_SameReceiver:FT (Recv×Recv×Unit) (Bool) (fun x=>sm_recv x.1∧sm_recv x.2.1) (fun _ _=>True):=⟨fun(x0,x1,_)=>
  .bnd (β:=Bool×Unit) (.ite (x0.next != x1.next) (.ret (true,()))<|
   .ite (!(x0.data==x1.data)) (.ret (true,()))<|
   .ite (x0.fin != x1.fin) (.ret (true,()))<|
   .ite (!(x0.done==x1.done)) (.ret (true,()))<|
   .ret (((x0.held.length:Int) != (x1.held.length:Int)),())) fun(u1a0,_)=>
  .ite u1a0 (.ret false)<|
  .lp (s_SameReceiver_L0_d (0,x0,x1,())).lp fun w2=> .sum w2 (fun _=>
  .ret false)<|
  fun _=>
  .ret true,
 fun(x0,x1,_) hp=>by
  refine Tr.B (Q':=fun _=>True) (Tr.F (by kernel_rfl) trivial) (fun(u1a0,_) _ _=>Tr.I (fun _=>Tr.R trivial) fun _=>Tr.L (s_SameReceiver_L0_k ?_ ?_ ?_) (fun _ _=>Tr.Sr (Tr.R trivial)) (fun _ _=>Tr.Sl (Tr.R trivial)))
  all_goals ((try simp only[s_SameReceiver_L0_d,LC.lp,LC.ct,Ct.lp,Tr.nice,letK]at*)<;>grind)⟩
noncomputable def s_SameReceiver_e:=entT st s_SameReceiver_x s_SameReceiver_o [(leC 0 s_SameReceiver_L0_h s_SameReceiver_L0_d)] (ks:=[.st .recv,.st .recv]) s_SameReceiver (fun v=>[(false,[.c (.bool v)])]) Tryz.func116 ⟨s_SameReceiver_L0_s,trivial⟩ fun _=>by kernel_rfl
noncomputable def s_SameMac_o:List (Ent1 Tryz.prog):=[]
def s_SameMac_L0_h:Sh:=⟨[(2,false,[.ptr 0 0]),(3,false,[.ptr 1 0]),(5,false,[.int .i64])],[.box [.st .mac [.sl .arg]],.box [.st .mac [.sl .arg]]]⟩
noncomputable def s_SameMac_x:Fx:=⟨117,Tryz.f117,[(0,la ⟨[2,3,5],[],false,0⟩ ⟨[4],[],false,0⟩),(3000001,rA 0 33)],0⟩
noncomputable def s_SameMac_L0_T (v1 v2:Mac)(v0:Int)(a:Unit):Tr (Stp (Unit) ((Unit))):=
 .grd ((decide (0≤v0))&&(decide (v0<(v1.rows.length:Int))))<|
 .grd ((decide (0≤v0))&&(decide (v0<(v2.rows.length:Int))))<|
 .ite (!(((v1.rows.getD v0.toNat (Ty.zero .macRow)).input==(v2.rows.getD v0.toNat (Ty.zero .macRow)).input)&&(((v1.rows.getD v0.toNat (Ty.zero .macRow)).value==(v2.rows.getD v0.toNat (Ty.zero .macRow)).value)&&true))) (.ret (.out ()))<|
 .ret (.next ())
noncomputable def s_SameMac_L0_d:s_SameMac_L0_h.V→LC s_SameMac_L0_h (Unit) ((Unit)) (((Unit))⊕(Int×Unit)):=fun(v0,v1,v2,_)=>⟨v0,(),fun v0 _=>(v0,v1,v2,()),fun v0 _=>(decide (v0<(v1.rows.length:Int))),s_SameMac_L0_T v1 v2,up,1,(Int.toNat ((v1.rows.length:Int)-v0)),.inl,fun i a=> .inr (i,a),fun _ k w=>Sum.elim (fun _=>k .ret (Sh.enc ⟨[(4,false,[.bool])],[]⟩ (false,()))) (fun _=>k (.exit 0) (Sh.enc ⟨[(4,false,[.undef])],[]⟩ ())) w⟩
theorem s_SameMac_L0_s:LS Tryz.prog s_SameMac_x [0] (leC 0 s_SameMac_L0_h s_SameMac_L0_d):=loopC st (orcOf_ok s_SameMac_o) _ s_SameMac_L0_d [] trivial (by kernel_rfl) (fun _=>by kernel_rfl) fun _ _ _ _ _ _=>by kernel_rfl
theorem s_SameMac_L0_k {v0:Int}{v1 v2:Mac}(h0:0≤v0)(h1:(v1.rows.length:Int)≤4611686018427387904)(h2:(v1.rows.length:Int)≤(v2.rows.length:Int)):(s_SameMac_L0_d (v0,v1,v2,())).U (v1.rows.length:Int) (fun _ _=>True) (fun _=>True):=
 LC.okU (i:=v0) (a:=()) (fun _ _=>rfl) (fun _=>rfl) rfl h0 h1 trivial fun v0 _ hj hk hv=>by
  refine Tr.G2 ?_ fun _=>Tr.G2 ?_ fun _=>Tr.Z (by kernel_rfl)
  all_goals (grind)
noncomputable def s_SameMac:FT (Mac×Mac×Unit) (Bool) (fun x=>sm_mac x.1∧sm_mac x.2.1) (fun _ _=>True):=⟨fun(x0,x1,_)=>
  .bnd (β:=Bool×Unit) (.ite (!(x0.use==x1.use)) (.ret (true,()))<|
   .ite (x0.k != x1.k) (.ret (true,()))<|
   .ite (x0.l != x1.l) (.ret (true,()))<|
   .ret (((x0.rows.length:Int) != (x1.rows.length:Int)),())) fun(u1a0,_)=>
  .ite u1a0 (.ret false)<|
  .lp (s_SameMac_L0_d (0,x0,x1,())).lp fun w2=> .sum w2 (fun _=>
  .ret false)<|
  fun _=>
  .ret true,
 fun(x0,x1,_) hp=>by
  refine Tr.B (Q':=fun _=>True) (Tr.F (by kernel_rfl) trivial) (fun(u1a0,_) _ _=>Tr.I (fun _=>Tr.R trivial) fun _=>Tr.L (s_SameMac_L0_k ?_ ?_ ?_) (fun _ _=>Tr.Sr (Tr.R trivial)) (fun _ _=>Tr.Sl (Tr.R trivial)))
  all_goals ((try simp only[s_SameMac_L0_d,LC.lp,LC.ct,Ct.lp,Tr.nice,letK]at*)<;>grind)⟩
noncomputable def s_SameMac_e:=entT st s_SameMac_x s_SameMac_o [(leC 0 s_SameMac_L0_h s_SameMac_L0_d)] (ks:=[.st .mac,.st .mac]) s_SameMac (fun v=>[(false,[.c (.bool v)])]) Tryz.func117 ⟨s_SameMac_L0_s,trivial⟩ fun _=>by kernel_rfl
noncomputable def s_NoOptions:FF (Unit) (Opti):=⟨fun _=>
  .ret (⟨0,(-1),false,false,0,0⟩:Opti)⟩
noncomputable def s_NoOptions_e:=ent1 st Tryz.func127 [] (ks:=[]) s_NoOptions (fun v=>[(true,q_opti v)]) fun _=>by kernel_rfl
noncomputable def g_Clone_Half:FT (List Half×Unit) (List Half) (fun x=>sS x.1) (fun x v=>v=x.1):=⟨fun x=> .ret x.1,fun _ _=>Tr.R rfl⟩
theorem g_Clone_Half_c (x:List Half×Unit)(hp:sS x.1):Con Tryz.prog 131 (pvs [.sc (.sl .half)] x) ((fun v=>[rv (.sc (.sl .half)) [.o true] v]) (g_Clone_Half.f x)):=by
 refine Con.byNil (t:= .half) (xs:=x.1) (fun h=> ?_) ?_
 ·obtain⟨x,_⟩:=x;subst h
  exact fn0 st Tryz.func131 (by kernel_rfl) (by kernel_rfl)
 ·exact fn0 st Tryz.func131 (by kernel_rfl) (Eq.trans (b:=bif Nat.ble ((2*(0+x.1.length)+1024)*96) maxSl then some ((fun v=>[rv (.sc (.sl .half)) [.o true] v]) x.1)else none) (by kernel_rfl) (by rw[show Nat.ble ((2*(0+x.1.length)+1024)*96) maxSl=true by simp only[Nat.ble_eq,maxSl];simp only[sS]at hp;omega];rfl))
noncomputable def g_Clone_Half_e:Ent1 Tryz.prog:=entP 131 (ks:=[.sc (.sl .half)]) g_Clone_Half.c (fun v=>[rv (.sc (.sl .half)) [.o true] v]) g_Clone_Half_c
noncomputable def i_NoOptions:FF (Unit) (Opti):=⟨fun _=>
  .ret (⟨0,(-1),false,false,0,0⟩:Opti)⟩
noncomputable def i_NoOptions_e:=ent1 st Tryz.func135 [] (ks:=[]) i_NoOptions (fun v=>[(true,q_opti v)]) fun _=>by kernel_rfl
noncomputable def s_l1Max:FF (Int×Int×Unit) (Int):=⟨fun(x0,x1,_)=>
  .ite (decide (x1<x0)) (.ret x0)<|
  .ret x1⟩
@[grind=] theorem s_l1Max_eq (x0 x1:Int):s_l1Max.f (x0,x1,())=(if x1<x0 then x0 else x1):=by
 simp only[s_l1Max,FF.f,Tr.nice]
 by_cases h:x1<x0<;>simp[h]
noncomputable def s_l1Max_e:=ent1 st Tryz.func157 [] (ks:=[.sc (.int .i64),.sc (.int .i64)]) s_l1Max (fun v=>[(false,[.c (.int .i64 v)])]) fun _=>by kernel_rfl
noncomputable def s_ReceiverNew:FT (Int×Unit) (Recv) (fun _=>True) (fun x v=>sm_recv v∧v.held.length≤3):=⟨fun(x0,_)=>
  .val (s_l4Rest.f (x0,())) fun c1=>
  .ret (⟨c1,[],[],(-1),false⟩:Recv),
 fun(x0,_) hp=>by
  refine Tr.V fun _ _=>Tr.R ?_
  all_goals (grind)⟩
noncomputable def s_ReceiverNew_e:=ent0 st Tryz.func158 [s_l4Rest_e] (ks:=[.sc (.int .i64)]) s_ReceiverNew (fun v=>[(true,q_recv (.o true) v)]) fun _=>by kernel_rfl
noncomputable def s_MssOf:FT (Int×Unit) (Int) (fun _=>True) (fun _ _=>True):=⟨fun(x0,_)=>
  .val (s_l1In.f (x0,0,7,())) fun c1=>
  .ite (!c1) (.ret 0)<|
  .grd ((decide (0≤x0))&&(decide (x0<8)))<|
  .ret ([64,256,536,1024,1300,1400,1440,1460].getD x0.toNat 0),
 fun(x0,_) hp=>by
  refine Tr.V fun _ _=>Tr.I (fun _=>Tr.R trivial) fun _=>Tr.G2 ?_ fun _=>Tr.R trivial
  all_goals (grind)⟩
noncomputable def s_MssOf_e:=ent0 st Tryz.func159 [s_l1In_e] (ks:=[.sc (.int .i64)]) s_MssOf (fun v=>[(false,[.c (.int .i64 v)])]) fun _=>by kernel_rfl
noncomputable def s_MacOk_o:List (Ent1 Tryz.prog):=[s_l1In_e]
def s_MacOk_L0_0_h:Sh:=⟨[(1,false,[.ptr 0 0]),(3,false,[.int .i64]),(4,false,[.int .i64])],[.box [.st .mac [.sl .arg]]]⟩
def s_MacOk_L0_h:Sh:=⟨[(1,false,[.ptr 0 0]),(3,false,[.int .i64])],[.box [.st .mac [.sl .arg]]]⟩
noncomputable def s_MacOk_x:Fx:=⟨161,Tryz.f161,[(2,la ⟨[1,3,4],[],false,0⟩ ⟨[1,2,3],[],false,0⟩),(0,la ⟨[1,3],[],false,0⟩ ⟨[1,2],[],false,0⟩)],0⟩
noncomputable def s_MacOk_L0_0_T (vb0:Int)(vb2:Mac)(vb1:Int)(a:Unit):Tr (Stp (Unit) ((Unit))):=
 .grd ((decide (0≤vb1))&&(decide (vb1<(vb2.rows.length:Int))))<|
 .grd ((decide (0≤vb0))&&(decide (vb0<(vb2.rows.length:Int))))<|
 .ite ((vb2.rows.getD vb1.toNat (Ty.zero .macRow)).input==(vb2.rows.getD vb0.toNat (Ty.zero .macRow)).input) (.ret (.out ()))<|
 .ret (.next ())
noncomputable def s_MacOk_L0_0_d:s_MacOk_L0_0_h.V→LC s_MacOk_L0_0_h (Unit) ((Unit)) (((Unit))⊕(Int×Unit)):=fun(vb0,vb1,vb2,_)=>⟨vb1,(),fun vb1 _=>(vb0,vb1,vb2,()),fun vb1 _=>(decide (vb1<vb0)),s_MacOk_L0_0_T vb0 vb2,up,1,(Int.toNat (vb0-vb1)),.inl,fun i a=> .inr (i,a),fun _ k w=>Sum.elim (fun _=>k .ret (Sh.enc ⟨[(1,false,[.ptr 0 0]),(2,false,[.bool]),(3,false,[.int .i64])],[.box [.st .mac [.sl .arg]]]⟩ (false,vb0,vb2,()))) (fun _=>k (.exit 2) (Sh.enc ⟨[(1,false,[.ptr 0 0]),(2,false,[.undef]),(3,false,[.int .i64])],[.box [.st .mac [.sl .arg]]]⟩ (vb0,vb2,()))) w⟩
theorem s_MacOk_L0_0_s:LS Tryz.prog s_MacOk_x [0,0] (leC 2 s_MacOk_L0_0_h s_MacOk_L0_0_d):=loopC st (orcOf_ok s_MacOk_o) _ s_MacOk_L0_0_d [] trivial (by kernel_rfl) (fun _=>by kernel_rfl) fun _ _ _ _ _ _=>by kernel_rfl
theorem s_MacOk_L0_0_k {vb0 vb1:Int}{vb2:Mac}(h0:0≤vb1)(h1:vb0≤4611686018427387904)(h2:vb0≤(vb2.rows.length:Int))(h3:0≤vb0)(h4:vb0<(vb2.rows.length:Int)):(s_MacOk_L0_0_d (vb0,vb1,vb2,())).U vb0 (fun _ _=>True) (fun _=>True):=
 LC.okU (i:=vb1) (a:=()) (fun _ _=>rfl) (fun _=>rfl) rfl h0 h1 trivial fun vb1 _ hj hk hv=>by
  refine Tr.G2 ?_ fun _=>Tr.G2 ?_ fun _=>Tr.Z (by kernel_rfl)
  all_goals (grind)
noncomputable def s_MacOk_L0_T (v1:Mac)(v0:Int)(a:Unit):Tr (Stp (Unit) ((Unit))):=
 .grd ((decide (0≤v0))&&(decide (v0<(v1.rows.length:Int))))<|
 .val (s_l1In.f ((v1.rows.getD v0.toNat (Ty.zero .macRow)).value,0,16777215,())) fun c1=>
 .ite (!c1) (.ret (.out ()))<|
 .lp (s_MacOk_L0_0_d (v0,0,v1,())).lp fun w2=> .sum w2 (fun _=>
 .ret (.out ()))<|
 fun _=>
 .ret (.next ())
noncomputable def s_MacOk_L0_d:s_MacOk_L0_h.V→LC s_MacOk_L0_h (Unit) ((Unit)) (((Unit))⊕(Int×Unit)):=fun(v0,v1,_)=>⟨v0,(),fun v0 _=>(v0,v1,()),fun v0 _=>(decide (v0<(v1.rows.length:Int))),s_MacOk_L0_T v1,up,1,(Int.toNat ((v1.rows.length:Int)-v0)),.inl,fun i a=> .inr (i,a),fun _ k w=>Sum.elim (fun _=>k .ret (Sh.enc ⟨[(1,false,[.ptr 0 0]),(2,false,[.bool])],[.box [.st .mac [.sl .arg]]]⟩ (false,v1,()))) (fun _=>k (.exit 0) (Sh.enc ⟨[(1,false,[.ptr 0 0]),(2,false,[.undef])],[.box [.st .mac [.sl .arg]]]⟩ (v1,()))) w⟩
theorem s_MacOk_L0_s:LS Tryz.prog s_MacOk_x [0] (leC 0 s_MacOk_L0_h s_MacOk_L0_d):=loopC st (orcOf_ok s_MacOk_o) _ s_MacOk_L0_d [(leC 2 s_MacOk_L0_0_h s_MacOk_L0_0_d)] ⟨s_MacOk_L0_0_s,trivial⟩ (by kernel_rfl) (fun _=>by kernel_rfl) fun _ _ _ _ _ _=>by kernel_rfl
theorem s_MacOk_L0_k {v0:Int}{v1:Mac}(h0:0≤v0)(h1:(v1.rows.length:Int)≤4611686018427387904)(h2:sm_mac v1):(s_MacOk_L0_d (v0,v1,())).U (v1.rows.length:Int) (fun _ _=>True) (fun _=>True):=
 LC.okU (i:=v0) (a:=()) (fun _ _=>rfl) (fun _=>rfl) rfl h0 h1 trivial fun v0 _ hj hk hv=>by
  refine Tr.G2 ?_ fun _=>Tr.V fun _ _=>Tr.I (fun _=>Tr.Ro trivial) fun _=>Tr.L (s_MacOk_L0_0_k ?_ ?_ ?_ ?_ ?_) (fun _ _=>Tr.Sr (Tr.Rn trivial)) (fun _ _=>Tr.Sl (Tr.Ro trivial))
  all_goals ((try simp only[s_MacOk_L0_0_d,LC.lp,LC.ct,Ct.lp]at*)<;>grind)
noncomputable def s_MacOk:FT (Mac×Unit) (Bool) (fun x=>sm_mac x.1) (fun x v=>(v=true→x.1.rows.length≤64)):=⟨fun(x0,_)=>
  .ite (!x0.use) (.ret ((x0.rows.length:Int)==0))<|
  .lp (s_MacOk_L0_d (0,x0,())).lp fun w3=> .sum w3 (fun _=>
  .ret false)<|
  fun _=>
  .ite (x0.k==0) (.ite (x0.l==0) (.ret (decide ((x0.rows.length:Int)≤64)))<|
   .ret false)<|
  .ret false,
 fun(x0,_) hp=>by
  refine Tr.I (fun _=>Tr.R ?_) fun _=>Tr.L (s_MacOk_L0_k ?_ ?_ ?_) (fun _ _=>Tr.Sr (Tr.I (fun _=>Tr.I (fun _=>Tr.R ?_) fun _=>Tr.R ?_) fun _=>Tr.R ?_)) (fun _ _=>Tr.Sl (Tr.R ?_))
  all_goals ((try simp only[s_MacOk_L0_d,LC.lp,LC.ct,Ct.lp]at*)<;>grind)⟩
noncomputable def s_MacOk_e:=entT st s_MacOk_x s_MacOk_o [(leC 0 s_MacOk_L0_h s_MacOk_L0_d)] (ks:=[.st .mac]) s_MacOk (fun v=>[(false,[.c (.bool v)])]) Tryz.func161 ⟨s_MacOk_L0_s,trivial⟩ fun _=>by kernel_rfl
noncomputable def s_l11Copy:FT (Mac×Unit) (Mac) (fun x=>sm_mac x.1) (fun x v=>sm_mac v∧v=x.1):=⟨fun(x0,_)=>
  .grd (Nat.ble ((2*(0+x0.rows.length)+1024)*24) maxSl)<|
  .ret ({x0 with rows:=([]++x0.rows)}:Mac),
 fun(x0,_) hp=>by
  refine Tr.Gb ?_ fun g0=>Tr.R ?_
  all_goals ((first|grind|(refine⟨by grind, ?_⟩;first|(simp only[List.nil_append];done)|(subst_vars;rfl)|simp_all)))⟩
noncomputable def s_l11Copy_e:=ent0 st Tryz.func162 [] (ks:=[.st .mac]) s_l11Copy (fun v=>[(true,q_mac (.o true) v)]) fun _=>by kernel_rfl
noncomputable def g_Index_Tuple_o:List (Ent1 Tryz.prog):=[]
def g_Index_Tuple_L0_h:Sh:=⟨[(0,false,[.sl .arg .tupl]),(3,false,[.ptr 0 0]),(7,false,[.int .i64]),(8,false,[.int .i64])],[.box [.st .tupl []]]⟩
noncomputable def g_Index_Tuple_x:Fx:=⟨168,Tryz.f168,[(0,la ⟨[0,3,7,8],[],false,0⟩ ⟨[4],[],false,0⟩)],0⟩
noncomputable def g_Index_Tuple_L0_T (v0:List Tupl)(v3:Tupl)(v2:Int)(a:Unit):Tr (Stp (Unit) ((Int))):=
 .grd ((decide (0≤v2))&&(decide (v2<(v0.length:Int))))<|
 .ite ((v3.ip==(v0.getD v2.toNat (Ty.zero .tupl)).ip)&&((v3.port==(v0.getD v2.toNat (Ty.zero .tupl)).port)&&((v3.my==(v0.getD v2.toNat (Ty.zero .tupl)).my)&&true))) (.ret (.out v2))<|
 .ret (.next ())
noncomputable def g_Index_Tuple_L0_d:g_Index_Tuple_L0_h.V→LC g_Index_Tuple_L0_h (Unit) ((Int)) (((Int))⊕(Int×Unit)):=fun(v0,v1,v2,v3,_)=>⟨v2,(),fun v2 _=>(v0,v1,v2,v3,()),fun v2 _=>(decide (v2<v1)),g_Index_Tuple_L0_T v0 v3,up,1,(Int.toNat (v1-v2)),.inl,fun i a=> .inr (i,a),fun _ k w=>Sum.elim (fun p=>k .ret (Sh.enc ⟨[(4,false,[.int .i64])],[]⟩ (p,()))) (fun _=>k (.exit 0) (Sh.enc ⟨[(4,false,[.undef])],[]⟩ ())) w⟩
theorem g_Index_Tuple_L0_s:LS Tryz.prog g_Index_Tuple_x [0] (leC 0 g_Index_Tuple_L0_h g_Index_Tuple_L0_d):=loopC st (orcOf_ok g_Index_Tuple_o) _ g_Index_Tuple_L0_d [] trivial (by kernel_rfl) (fun _=>by kernel_rfl) fun _ _ _ _ _ _=>by kernel_rfl
theorem g_Index_Tuple_L0_k {v0:List Tupl}{v1 v2:Int}{v3:Tupl}(h0:0≤v2)(h1:v1≤4611686018427387904)(h2:v1≤(v0.length:Int)):(g_Index_Tuple_L0_d (v0,v1,v2,v3,())).U v1 (fun _ _=>True) (fun p=>v2≤p∧p<v1):=
 LC.okU (i:=v2) (a:=()) (fun _ _=>rfl) (fun _=>rfl) rfl h0 h1 trivial fun v2 _ hj hk hv=>by
  refine Tr.G2 ?_ fun _=>Tr.I (fun _=>Tr.Ro ?_) fun _=>Tr.Rn trivial
  all_goals (grind)
noncomputable def g_Index_Tuple:FT (List Tupl×Tupl×Unit) (Int) (fun x=>wS x.1) (fun x v=> -1≤v∧v<x.1.length):=⟨fun(x0,x1,_)=>
  .lp (g_Index_Tuple_L0_d (x0,(x0.length:Int),0,x1,())).lp fun w1=> .sum w1 (fun p1a0=>
  .ret p1a0)<|
  fun _=>
  .ret (-1),
 fun(x0,x1,_) hp=>by
  refine Tr.L (g_Index_Tuple_L0_k ?_ ?_ ?_) (fun _ _=>Tr.Sr (Tr.R ?_)) (fun p1a0 _=>Tr.Sl (Tr.R ?_))
  all_goals ((try simp only[g_Index_Tuple_L0_d,LC.lp,LC.ct,Ct.lp]at*)<;>grind)⟩
noncomputable def g_Index_Tuple_e:=entT st g_Index_Tuple_x g_Index_Tuple_o [(leC 0 g_Index_Tuple_L0_h g_Index_Tuple_L0_d)] (ks:=[.sc (.sl .tupl),.st .tupl]) g_Index_Tuple (fun v=>[(false,[.c (.int .i64 v)])]) Tryz.func168 ⟨g_Index_Tuple_L0_s,trivial⟩ fun _=>by kernel_rfl
noncomputable def s_KeptOptions:FF (Opti×Unit) (Opti):=⟨fun(x0,_)=>
  .ite x0.stamp (.ret x0)<|
  .val (s_NoOptions.f (())) fun c1=>
  .ret ({c1 with mss:=x0.mss}:Opti)⟩
noncomputable def s_KeptOptions_e:=ent1 st Tryz.func175 [s_NoOptions_e] (ks:=[.st .opti]) s_KeptOptions (fun v=>[(true,q_opti v)]) fun _=>by kernel_rfl
noncomputable def s_l25Waits_o:List (Ent1 Tryz.prog):=[]
def s_l25Waits_L0_h:Sh:=⟨[(0,false,[.sl .arg .tupl]),(3,false,[.ptr 0 0]),(5,false,[.int .i64])],[.box [.st .tupl []]]⟩
noncomputable def s_l25Waits_x:Fx:=⟨176,Tryz.f176,[(0,la ⟨[0,3,5],[],false,0⟩ ⟨[4],[],false,0⟩)],0⟩
noncomputable def s_l25Waits_L0_T (v0:List Tupl)(v2:Tupl)(v1:Int)(a:Unit):Tr (Stp (Unit) ((Unit))):=
 .grd ((decide (0≤v1))&&(decide (v1<(v0.length:Int))))<|
 .ite (((v0.getD v1.toNat (Ty.zero .tupl)).ip==v2.ip)&&(((v0.getD v1.toNat (Ty.zero .tupl)).port==v2.port)&&(((v0.getD v1.toNat (Ty.zero .tupl)).my==v2.my)&&true))) (.ret (.out ()))<|
 .ret (.next ())
noncomputable def s_l25Waits_L0_d:s_l25Waits_L0_h.V→LC s_l25Waits_L0_h (Unit) ((Unit)) (((Unit))⊕(Int×Unit)):=fun(v0,v1,v2,_)=>⟨v1,(),fun v1 _=>(v0,v1,v2,()),fun v1 _=>(decide (v1<(v0.length:Int))),s_l25Waits_L0_T v0 v2,up,1,(Int.toNat ((v0.length:Int)-v1)),.inl,fun i a=> .inr (i,a),fun _ k w=>Sum.elim (fun _=>k .ret (Sh.enc ⟨[(4,false,[.bool])],[]⟩ (true,()))) (fun _=>k (.exit 0) (Sh.enc ⟨[(4,false,[.undef])],[]⟩ ())) w⟩
theorem s_l25Waits_L0_s:LS Tryz.prog s_l25Waits_x [0] (leC 0 s_l25Waits_L0_h s_l25Waits_L0_d):=loopC st (orcOf_ok s_l25Waits_o) _ s_l25Waits_L0_d [] trivial (by kernel_rfl) (fun _=>by kernel_rfl) fun _ _ _ _ _ _=>by kernel_rfl
theorem s_l25Waits_L0_k {v0:List Tupl}{v1:Int}{v2:Tupl}(h0:0≤v1)(h1:(v0.length:Int)≤4611686018427387904):(s_l25Waits_L0_d (v0,v1,v2,())).U (v0.length:Int) (fun _ _=>True) (fun _=>True):=
 LC.okU (i:=v1) (a:=()) (fun _ _=>rfl) (fun _=>rfl) rfl h0 h1 trivial fun v1 _ hj hk hv=>by
  refine Tr.G2 ?_ fun _=>Tr.Z (by kernel_rfl)
  all_goals (grind)
noncomputable def s_l25Waits:FT (List Tupl×Tupl×Unit) (Bool) (fun x=>wS x.1) (fun _ _=>True):=⟨fun(x0,x1,_)=>
  .lp (s_l25Waits_L0_d (x0,0,x1,())).lp fun w1=> .sum w1 (fun _=>
  .ret true)<|
  fun _=>
  .ret false,
 fun(x0,x1,_) hp=>by
  refine Tr.L (s_l25Waits_L0_k ?_ ?_) (fun _ _=>Tr.Sr (Tr.R trivial)) (fun _ _=>Tr.Sl (Tr.R trivial))
  all_goals ((try simp only[s_l25Waits_L0_d,LC.lp,LC.ct,Ct.lp]at*)<;>grind)⟩
noncomputable def s_l25Waits_e:=entT st s_l25Waits_x s_l25Waits_o [(leC 0 s_l25Waits_L0_h s_l25Waits_L0_d)] (ks:=[.sc (.sl .tupl),.st .tupl]) s_l25Waits (fun v=>[(false,[.c (.bool v)])]) Tryz.func176 ⟨s_l25Waits_L0_s,trivial⟩ fun _=>by kernel_rfl
noncomputable def i_AgedHalves_o:List (Ent1 Tryz.prog):=[]
def i_AgedHalves_L0_h:Sh:=⟨[(3,false,[.own 0]),(7,false,[.sl .arg .half]),(8,false,[.int .i64]),(9,false,[.int .i64])],[.arr .half false true]⟩
noncomputable def i_AgedHalves_x:Fx:=⟨180,Tryz.f180,[(0,la ⟨[3,7,8,9],[],false,0⟩ ⟨[2,3],[],false,0⟩)],0⟩
noncomputable def i_AgedHalves_L0_T (v0:List Half)(v2:Int)(a:List Half):Tr (Stp (List Half) (Empty)):=
 .grd ((decide (0≤v2))&&(decide (v2<(v0.length:Int))))<|
 .ite (decide ((IntKind.wrap .i64 ((v0.getD v2.toNat (Ty.zero .half)).age+1))≤6)) (.grd (Nat.ble ((2*(a.length+1)+1024)*96) maxSl)<|
  .val (a++[({(v0.getD v2.toNat (Ty.zero .half))with age:=(IntKind.wrap .i64 ((v0.getD v2.toNat (Ty.zero .half)).age+1))}:Half)]) fun l1=>
  .ret (.next l1))<|
 .ret (.next a)
noncomputable def i_AgedHalves_L0_d:i_AgedHalves_L0_h.V→LC i_AgedHalves_L0_h (List Half) (Empty) (Int×(List Half)):=fun(v0,v1,v2,v3,_)=>⟨v2,v3,fun v2 a=>(v0,v1,v2,a,()),fun v2 _=>(decide (v2<v1)),i_AgedHalves_L0_T v0,up,1,(Int.toNat (v1-v2)),(fun p=>Empty.elim p),fun i a=>(i,a),fun _ k x=>k (.exit 0) (Sh.enc ⟨[(2,false,[.undef]),(3,false,[.own 0])],[.arr .half false true]⟩ (x.2,()))⟩
theorem i_AgedHalves_L0_s:LS Tryz.prog i_AgedHalves_x [0] (leC 0 i_AgedHalves_L0_h i_AgedHalves_L0_d):=loopC st (orcOf_ok i_AgedHalves_o) _ i_AgedHalves_L0_d [] trivial (by kernel_rfl) (fun _=>by kernel_rfl) fun _ _ _ _ _ _=>by kernel_rfl
theorem i_AgedHalves_L0_k {v0 v3:List Half}{v1 v2:Int}(h0:0≤v2)(h1:v1≤4611686018427387904)(h2:sS v0)(h3:v1≤4294967296)(h4:v1≤(v0.length:Int))(h5:(v3.length:Int)≤v2):(i_AgedHalves_L0_d (v0,v1,v2,v3,())).U v1 (fun v2 a=>(a.length:Int)≤v2) (fun _=>True):=
 LC.okU (i:=v2) (a:=v3) (fun _ _=>rfl) (fun _=>rfl) rfl h0 h1 h5 fun v2 v3 hj hk hv=>by
  refine Tr.G2 ?_ fun _=>Tr.I (fun _=>Tr.Gb ?_ fun _=>Tr.V fun _ _=>Tr.Rn ?_) fun _=>Tr.Rn ?_
  all_goals (grind)
noncomputable def i_AgedHalves:FT (List Half×Unit) (List Half) (fun x=>sS x.1) (fun x v=>sS v):=⟨fun(x0,_)=>
  .lp (i_AgedHalves_L0_d (x0,(x0.length:Int),0,[],())).lp fun(_,a2_0)=>
  .ret a2_0,
 fun(x0,_) hp=>by
  refine Tr.L (i_AgedHalves_L0_k ?_ ?_ ?_ ?_ ?_ ?_) (fun a2_0 _=>Tr.R ?_) (fun p=>Empty.elim p)
  all_goals ((try simp only[i_AgedHalves_L0_d,LC.lp,LC.ct,Ct.lp]at*)<;>grind)⟩
noncomputable def i_AgedHalves_e:=entT st i_AgedHalves_x i_AgedHalves_o [(leC 0 i_AgedHalves_L0_h i_AgedHalves_L0_d)] (ks:=[.sc (.sl .half)]) i_AgedHalves (fun v=>[(false,[sc (.o true) .half v])]) Tryz.func180 ⟨i_AgedHalves_L0_s,trivial⟩ fun _=>by kernel_rfl
noncomputable def s_l16Copy:FT (Link×Unit) (Link) (fun x=>sm_link x.1) (fun x v=>sm_link v):=⟨fun(x0,_)=>
  .grd (Nat.ble ((2*(0+x0.cache.length)+1024)*24) maxSl)<|
  .ret ({x0 with cache:=([]++x0.cache)}:Link),
 fun(x0,_) hp=>by
  refine Tr.Gb ?_ fun _=>Tr.R ?_
  all_goals (grind)⟩
noncomputable def s_l16Copy_e:=ent0 st Tryz.func185 [] (ks:=[.st .link]) s_l16Copy (fun v=>[(true,q_link (.o true) v)]) fun _=>by kernel_rfl
noncomputable def s_AgedHalves_o:List (Ent1 Tryz.prog):=[]
def s_AgedHalves_L0_h:Sh:=⟨[(0,false,[.sl .arg .half]),(3,false,[.own 0]),(4,false,[.int .i64])],[.arr .half false true]⟩
noncomputable def s_AgedHalves_x:Fx:=⟨193,Tryz.f193,[(0,la ⟨[0,3,4],[],false,0⟩ ⟨[2,3],[],false,0⟩)],0⟩
noncomputable def s_AgedHalves_L0_T (v0:List Half)(v1:Int)(a:List Half):Tr (Stp (List Half) (Empty)):=
 .grd ((decide (0≤v1))&&(decide (v1<(v0.length:Int))))<|
 .ite (decide ((v0.getD v1.toNat (Ty.zero .half)).age<6)) (.grd (Nat.ble ((2*(a.length+1)+1024)*96) maxSl)<|
  .val (a++[({(v0.getD v1.toNat (Ty.zero .half))with age:=(IntKind.wrap .i64 ((v0.getD v1.toNat (Ty.zero .half)).age+1))}:Half)]) fun l1=>
  .ret (.next l1))<|
 .ret (.next a)
noncomputable def s_AgedHalves_L0_d:s_AgedHalves_L0_h.V→LC s_AgedHalves_L0_h (List Half) (Empty) (Int×(List Half)):=fun(v0,v1,v2,_)=>⟨v1,v2,fun v1 a=>(v0,v1,a,()),fun v1 _=>(decide (v1<(v0.length:Int))),s_AgedHalves_L0_T v0,up,1,(Int.toNat ((v0.length:Int)-v1)),(fun p=>Empty.elim p),fun i a=>(i,a),fun _ k x=>k (.exit 0) (Sh.enc ⟨[(2,false,[.undef]),(3,false,[.own 0])],[.arr .half false true]⟩ (x.2,()))⟩
theorem s_AgedHalves_L0_s:LS Tryz.prog s_AgedHalves_x [0] (leC 0 s_AgedHalves_L0_h s_AgedHalves_L0_d):=loopC st (orcOf_ok s_AgedHalves_o) _ s_AgedHalves_L0_d [] trivial (by kernel_rfl) (fun _=>by kernel_rfl) fun _ _ _ _ _ _=>by kernel_rfl
theorem s_AgedHalves_L0_k {v0 v2:List Half}{v1:Int}(h0:0≤v1)(h1:(v0.length:Int)≤4611686018427387904)(h2:sS v0)(h3:(v2.length:Int)≤v1):(s_AgedHalves_L0_d (v0,v1,v2,())).U (v0.length:Int) (fun v1 a=>(a.length:Int)≤v1) (fun _=>True):=
 LC.okU (i:=v1) (a:=v2) (fun _ _=>rfl) (fun _=>rfl) rfl h0 h1 h3 fun v1 v2 hj hk hv=>by
  refine Tr.G2 ?_ fun _=>Tr.I (fun _=>Tr.Gb ?_ fun _=>Tr.V fun _ _=>Tr.Rn ?_) fun _=>Tr.Rn ?_
  all_goals (grind)
noncomputable def s_AgedHalves:FT (List Half×Unit) (List Half) (fun x=>sS x.1) (fun x v=>sS v):=⟨fun(x0,_)=>
  .lp (s_AgedHalves_L0_d (x0,0,[],())).lp fun(_,a2_0)=>
  .ret a2_0,
 fun(x0,_) hp=>by
  refine Tr.L (s_AgedHalves_L0_k ?_ ?_ ?_ ?_) (fun a2_0 _=>Tr.R ?_) (fun p=>Empty.elim p)
  all_goals ((try simp only[s_AgedHalves_L0_d,LC.lp,LC.ct,Ct.lp]at*)<;>grind)⟩
noncomputable def s_AgedHalves_e:=entT st s_AgedHalves_x s_AgedHalves_o [(leC 0 s_AgedHalves_L0_h s_AgedHalves_L0_d)] (ks:=[.sc (.sl .half)]) s_AgedHalves (fun v=>[(false,[sc (.o true) .half v])]) Tryz.func193 ⟨s_AgedHalves_L0_s,trivial⟩ fun _=>by kernel_rfl
noncomputable def s_l19Fin:FF (Int×Unit) (Bool):=⟨fun(x0,_)=>
  .ite (x0 != 1) (.ret (x0 != 4))<|
  .ret false⟩
noncomputable def s_l19Fin_e:=ent1 st Tryz.func199 [] (ks:=[.sc (.int .i64)]) s_l19Fin (fun v=>[(false,[.c (.bool v)])]) fun _=>by kernel_rfl
noncomputable def s_SegmentLen:FT (Segm×Unit) (Int) (fun x=>sm_segm x.1) (fun x v=>0≤v∧v≤x.1.body.length+2):=⟨fun(x0,_)=>
  .val (s_Has.f (x0,2,())) fun c1=>
  .ite c1 (.val (s_Has.f (x0,1,())) fun c2=>
   .ite c2 (.val (IntKind.wrap .i64 ((IntKind.wrap .i64 ((x0.body.length:Int)+1))+1)) fun e3=>
    .ret e3)<|
   .ret (IntKind.wrap .i64 ((x0.body.length:Int)+1)))<|
  .val (s_Has.f (x0,1,())) fun c4=>
  .ite c4 (.ret (IntKind.wrap .i64 ((x0.body.length:Int)+1)))<|
  .ret (x0.body.length:Int),
 fun(x0,_) hp=>by
  refine Tr.V fun _ _=>Tr.I (fun _=>Tr.V fun _ _=>Tr.I (fun _=>Tr.V fun _ _=>Tr.R ?_) fun _=>Tr.R ?_) fun _=>Tr.V fun _ _=>Tr.I (fun _=>Tr.R ?_) fun _=>Tr.R ?_
  all_goals (grind)⟩
noncomputable def s_SegmentLen_e:=ent0 st Tryz.func200 [s_Has_e] (ks:=[.st .segm]) s_SegmentLen (fun v=>[(false,[.c (.int .i64 v)])]) fun _=>by kernel_rfl
noncomputable def s_SeqDiff:FF (Int×Int×Unit) (Int):=⟨fun(x0,x1,_)=>
  .val (s_l4Rest.f (x0,())) fun c1=>
  .val (s_l4Rest.f (x1,())) fun c2=>
  .val (s_l4Rest.f ((IntKind.wrap .i64 (c1-c2)),())) fun c3=>
  .ite (decide (2147483647<c3)) (.ret (IntKind.wrap .i64 (c3-4294967296)))<|
  .ret c3⟩
noncomputable def s_SeqDiff_e:=ent1 st Tryz.func201 [s_l4Rest_e] (ks:=[.sc (.int .i64),.sc (.int .i64)]) s_SeqDiff (fun v=>[(false,[.c (.int .i64 v)])]) fun _=>by kernel_rfl
noncomputable def s_l17Flown:FT (Sndr×Unit) (Int) (fun x=>sm_sndr x.1) (fun x v=>(0≤x.1.sent∧x.1.sent≤1000→x.1.sent≤v∧v≤x.1.sent+1)):=⟨fun(x0,_)=>
  .ite x0.finSent (.ret (IntKind.wrap .i64 (x0.sent+1)))<|
  .ret x0.sent,
 fun(x0,_) hp=>by
  refine Tr.I (fun _=>Tr.R ?_) fun _=>Tr.R ?_
  all_goals (grind)⟩
noncomputable def s_l17Flown_e:=ent0 st Tryz.func203 [] (ks:=[.st .sndr]) s_l17Flown (fun v=>[(false,[.c (.int .i64 v)])]) fun _=>by kernel_rfl
noncomputable def s_l5Long:FT (Int×Unit) (Bytes) (fun x=>0≤x.1∧x.1≤1048576) (fun x v=>sS v):=⟨fun(x0,_)=>
  .grd ((((decide (0≤x0))&&(decide (x0=x0)))&&(decide (x0*1≤(maxSl:Int))))&&(decide (x0≤(maxSl:Int))))<|
  .ret (toBytes (List.replicate x0.toNat 0)),
 fun(x0,_) hp=>by
  refine Tr.G4 ?_ fun _=>Tr.R ?_
  all_goals (grind)⟩
noncomputable def s_l5Long_e:=ent0 st Tryz.func213 [] (ks:=[.sc (.int .i64)]) s_l5Long (fun v=>[(false,[.c (.str v)])]) fun _=>by kernel_rfl
noncomputable def s_MssIndex_o:List (Ent1 Tryz.prog):=[s_MssOf_e]
def s_MssIndex_L0_h:Sh:=⟨[(0,false,[.int .i64]),(3,false,[.int .i64]),(4,false,[.int .i64])],[]⟩
noncomputable def s_MssIndex_x:Fx:=⟨215,Tryz.f215,[(0,la ⟨[0,3,4],[],false,0⟩ ⟨[2,3],[],false,0⟩)],0⟩
noncomputable def s_MssIndex_L0_T (v0:Int)(v2:Int)(a:Int):Tr (Stp (Int) (Empty)):=
 .cal s_MssOf.c (v2,()) fun c1=>
 .ite (decide (c1≤v0)) (.ret (.next v2))<|
 .ret (.next a)
noncomputable def s_MssIndex_L0_d:s_MssIndex_L0_h.V→LC s_MssIndex_L0_h (Int) (Empty) (Int×Int):=fun(v0,v1,v2,_)=>⟨v2,v1,fun v2 a=>(v0,a,v2,()),fun v2 _=>(decide (v2<8)),s_MssIndex_L0_T v0,up,1,(Int.toNat (8-v2)),(fun p=>Empty.elim p),fun i a=>(i,a),fun _ k x=>k (.exit 0) (Sh.enc ⟨[(2,false,[.undef]),(3,false,[.int .i64])],[]⟩ (x.2,()))⟩
theorem s_MssIndex_L0_s:LS Tryz.prog s_MssIndex_x [0] (leC 0 s_MssIndex_L0_h s_MssIndex_L0_d):=loopC st (orcOf_ok s_MssIndex_o) _ s_MssIndex_L0_d [] trivial (by kernel_rfl) (fun _=>by kernel_rfl) fun _ _ _ _ _ _=>by kernel_rfl
theorem s_MssIndex_L0_k {v0 v1 v2:Int}(h0:0≤v2):(s_MssIndex_L0_d (v0,v1,v2,())).U 8 (fun _ _=>True) (fun _=>True):=
 LC.okU (i:=v2) (a:=v1) (fun _ _=>rfl) (fun _=>rfl) rfl h0 (by decide) trivial fun v2 v1 hj hk hv=>by
  refine Tr.C trivial fun _ _ _=>Tr.Z (by kernel_rfl)
noncomputable def s_MssIndex:FT (Int×Unit) (Int) (fun _=>True) (fun _ _=>True):=⟨fun(x0,_)=>
  .lp (s_MssIndex_L0_d (x0,0,0,())).lp fun(_,a2_0)=>
  .ret a2_0,
 fun(x0,_) hp=>by
  refine Tr.L (s_MssIndex_L0_k ?_) (fun a2_0 _=>Tr.R trivial) (fun p=>Empty.elim p)
  all_goals ((try simp only[s_MssIndex_L0_d,LC.lp,LC.ct,Ct.lp]at*)<;>grind)⟩
noncomputable def s_MssIndex_e:=entT st s_MssIndex_x s_MssIndex_o [(leC 0 s_MssIndex_L0_h s_MssIndex_L0_d)] (ks:=[.sc (.int .i64)]) s_MssIndex (fun v=>[(false,[.c (.int .i64 v)])]) Tryz.func215 ⟨s_MssIndex_L0_s,trivial⟩ fun _=>by kernel_rfl
noncomputable def s_StampOf_o:List (Ent1 Tryz.prog):=[s_l1In_e,s_l4Rest_e]
def s_StampOf_J8_a:An:=⟨⟨[],[],false,0⟩,⟨[0,1,6,7],[],false,0⟩,⟨[],[]⟩,[(.normal,⟨[(0,false,[.int .i64]),(1,false,[.int .i64]),(6,false,[.int .i64]),(7,false,[.int .i64])],[]⟩)]⟩
noncomputable def s_StampOf_x:Fx:=⟨216,Tryz.f216,[(1000008,s_StampOf_J8_a)],0⟩
noncomputable def s_StampOf:FF (Int×Int×Bool×Unit) (Int):=⟨fun(x0,x1,x2,_)=>
  .bnd (β:=Int×Int×Int×Int×Unit) (.ite x2 (.ret (x0,x1,0,48,()))<|
   .ret (x0,x1,0,32,())) fun(u1a0,u1a1,_,u1a3,_)=>
  .val (s_l1In.f (u1a1,0,14,())) fun c2=>
  .ite c2 (.val (s_l4Rest.f (u1a0,())) fun c3=>
   .val (IntKind.wrap .i64 ((IntKind.wrap .i64 (c3*64))+(IntKind.wrap .i64 (u1a3+u1a1)))) fun e4=>
   .val (s_l4Rest.f (e4,())) fun c5=>
   .ret c5)<|
  .val (s_l4Rest.f (u1a0,())) fun c6=>
  .val (IntKind.wrap .i64 ((IntKind.wrap .i64 (c6*64))+(IntKind.wrap .i64 (u1a3+15)))) fun e7=>
  .val (s_l4Rest.f (e7,())) fun c8=>
  .ret c8⟩
noncomputable def s_StampOf_e:=ent1L st s_StampOf_x s_StampOf_o [] (ks:=[.sc (.int .i64),.sc (.int .i64),.sc .bool]) s_StampOf (fun v=>[(false,[.c (.int .i64 v)])]) Tryz.func216 trivial fun _=>by kernel_rfl
noncomputable def g_Clone_Tuple:FT (List Tupl×Unit) (List Tupl) (fun x=>sS x.1) (fun x v=>v=x.1):=⟨fun x=> .ret x.1,fun _ _=>Tr.R rfl⟩
theorem g_Clone_Tuple_c (x:List Tupl×Unit)(hp:sS x.1):Con Tryz.prog 219 (pvs [.sc (.sl .tupl)] x) ((fun v=>[rv (.sc (.sl .tupl)) [.o true] v]) (g_Clone_Tuple.f x)):=by
 refine Con.byNil (t:= .tupl) (xs:=x.1) (fun h=> ?_) ?_
 ·obtain⟨x,_⟩:=x;subst h
  exact fn0 st Tryz.func219 (by kernel_rfl) (by kernel_rfl)
 ·exact fn0 st Tryz.func219 (by kernel_rfl) (Eq.trans (b:=bif Nat.ble ((2*(0+x.1.length)+1024)*24) maxSl then some ((fun v=>[rv (.sc (.sl .tupl)) [.o true] v]) x.1)else none) (by kernel_rfl) (by rw[show Nat.ble ((2*(0+x.1.length)+1024)*24) maxSl=true by simp only[Nat.ble_eq,maxSl];simp only[sS]at hp;omega];rfl))
noncomputable def g_Clone_Tuple_e:Ent1 Tryz.prog:=entP 219 (ks:=[.sc (.sl .tupl)]) g_Clone_Tuple.c (fun v=>[rv (.sc (.sl .tupl)) [.o true] v]) g_Clone_Tuple_c
noncomputable def i_WindowOf:FT (Recv×Unit) (Int) (fun x=>sm_recv x.1) (fun x v=>0≤v∧v≤32∧(x.1.data.length≤32→v=winR x.1)):=⟨fun(x0,_)=>
  .ite x0.done (.ret 0)<|
  .val (β:=Int) (if 0<(IntKind.wrap .i64 (32-(x0.data.length:Int)))then(IntKind.wrap .i64 (32-(x0.data.length:Int)))else 0) fun e1=>
  .ret e1,
 fun(x0,_) hp=>by
  refine Tr.I (fun _=>Tr.R ?_) fun _=>Tr.V fun _ _=>Tr.R ?_
  all_goals (grind)⟩
noncomputable def i_WindowOf_e:=ent0 st Tryz.func224 [] (ks:=[.st .recv]) i_WindowOf (fun v=>[(false,[.c (.int .i64 v)])]) fun _=>by kernel_rfl
noncomputable def i_flying:FT (Sndr×Unit) (Int) (fun x=>sm_sndr x.1) (fun x v=>(0≤x.1.sent∧x.1.sent≤1000→x.1.sent≤v∧v≤x.1.sent+1)):=⟨fun(x0,_)=>
  .ite x0.finSent (.ret (IntKind.wrap .i64 (x0.sent+1)))<|
  .ret x0.sent,
 fun(x0,_) hp=>by
  refine Tr.I (fun _=>Tr.R ?_) fun _=>Tr.R ?_
  all_goals (grind)⟩
noncomputable def i_flying_e:=ent0 st Tryz.func229 [] (ks:=[.st .sndr]) i_flying (fun v=>[(false,[.c (.int .i64 v)])]) fun _=>by kernel_rfl
noncomputable def i_MssFor:FF (Conn×Unit) (Int):=⟨fun(x0,_)=>
  .ite (x0.opts.mss==0) (.ret 536)<|
  .val (β:=Int) (if 1<(if 1460<x0.opts.mss then 1460 else x0.opts.mss)then(if 1460<x0.opts.mss then 1460 else x0.opts.mss)else 1) fun e1=>
  .ret e1⟩
noncomputable def i_MssFor_e:=ent1 st Tryz.func233 [] (ks:=[.st .conn]) i_MssFor (fun v=>[(false,[.c (.int .i64 v)])]) fun _=>by kernel_rfl
noncomputable def g_Equal_MacRow_o:List (Ent1 Tryz.prog):=[]
def g_Equal_MacRow_L0_h:Sh:=⟨[(0,false,[.sl .arg .macRow]),(1,false,[.sl .arg .macRow]),(12,false,[.int .i64]),(13,false,[.int .i64])],[]⟩
noncomputable def g_Equal_MacRow_x:Fx:=⟨240,Tryz.f240,[(0,la ⟨[0,1,12,13],[],false,0⟩ ⟨[4],[],false,0⟩)],0⟩
noncomputable def g_Equal_MacRow_L0_T (v0 v1:List MacRow)(v3:Int)(a:Unit):Tr (Stp (Unit) ((Unit))):=
 .grd ((decide (0≤v3))&&(decide (v3<(v0.length:Int))))<|
 .grd ((decide (0≤v3))&&(decide (v3<(v1.length:Int))))<|
 .ite (!(((v0.getD v3.toNat (Ty.zero .macRow)).input==(v1.getD v3.toNat (Ty.zero .macRow)).input)&&(((v0.getD v3.toNat (Ty.zero .macRow)).value==(v1.getD v3.toNat (Ty.zero .macRow)).value)&&true))) (.ret (.out ()))<|
 .ret (.next ())
noncomputable def g_Equal_MacRow_L0_d:g_Equal_MacRow_L0_h.V→LC g_Equal_MacRow_L0_h (Unit) ((Unit)) (((Unit))⊕(Int×Unit)):=fun(v0,v1,v2,v3,_)=>⟨v3,(),fun v3 _=>(v0,v1,v2,v3,()),fun v3 _=>(decide (v3<v2)),g_Equal_MacRow_L0_T v0 v1,up,1,(Int.toNat (v2-v3)),.inl,fun i a=> .inr (i,a),fun _ k w=>Sum.elim (fun _=>k .ret (Sh.enc ⟨[(4,false,[.bool])],[]⟩ (false,()))) (fun _=>k (.exit 0) (Sh.enc ⟨[(4,false,[.undef])],[]⟩ ())) w⟩
theorem g_Equal_MacRow_L0_s:LS Tryz.prog g_Equal_MacRow_x [0] (leC 0 g_Equal_MacRow_L0_h g_Equal_MacRow_L0_d):=loopC st (orcOf_ok g_Equal_MacRow_o) _ g_Equal_MacRow_L0_d [] trivial (by kernel_rfl) (fun _=>by kernel_rfl) fun _ _ _ _ _ _=>by kernel_rfl
theorem g_Equal_MacRow_L0_k {v0 v1:List MacRow}{v2 v3:Int}(h0:0≤v3)(h1:v2≤4611686018427387904)(h2:v2≤(v0.length:Int))(h3:v2≤(v1.length:Int)):(g_Equal_MacRow_L0_d (v0,v1,v2,v3,())).U v2 (fun _ _=>True) (fun _=>True):=
 LC.okU (i:=v3) (a:=()) (fun _ _=>rfl) (fun _=>rfl) rfl h0 h1 trivial fun v3 _ hj hk hv=>by
  refine Tr.G2 ?_ fun _=>Tr.G2 ?_ fun _=>Tr.Z (by kernel_rfl)
  all_goals (grind)
noncomputable def g_Equal_MacRow:FT (List MacRow×List MacRow×Unit) (Bool) (fun x=>sL sm_macRow x.1∧sL sm_macRow x.2.1) (fun _ _=>True):=⟨fun(x0,x1,_)=>
  .ite ((x0.length:Int) != (x1.length:Int)) (.ret false)<|
  .lp (g_Equal_MacRow_L0_d (x0,x1,(x0.length:Int),0,())).lp fun w1=> .sum w1 (fun _=>
  .ret false)<|
  fun _=>
  .ret true,
 fun(x0,x1,_) hp=>by
  refine Tr.I (fun _=>Tr.R trivial) fun _=>Tr.L (g_Equal_MacRow_L0_k ?_ ?_ ?_ ?_) (fun _ _=>Tr.Sr (Tr.R trivial)) (fun _ _=>Tr.Sl (Tr.R trivial))
  all_goals ((try simp only[g_Equal_MacRow_L0_d,LC.lp,LC.ct,Ct.lp]at*)<;>grind)⟩
noncomputable def g_Equal_MacRow_e:=entT st g_Equal_MacRow_x g_Equal_MacRow_o [(leC 0 g_Equal_MacRow_L0_h g_Equal_MacRow_L0_d)] (ks:=[.sc (.sl .macRow),.sc (.sl .macRow)]) g_Equal_MacRow (fun v=>[(false,[.c (.bool v)])]) Tryz.func240 ⟨g_Equal_MacRow_L0_s,trivial⟩ fun _=>by kernel_rfl
noncomputable def g_Clone_Entry:FT (List Entr×Unit) (List Entr) (fun x=>sS x.1) (fun x v=>v=x.1):=⟨fun x=> .ret x.1,fun _ _=>Tr.R rfl⟩
theorem g_Clone_Entry_c (x:List Entr×Unit)(hp:sS x.1):Con Tryz.prog 250 (pvs [.sc (.sl .entr)] x) ((fun v=>[rv (.sc (.sl .entr)) [.o true] v]) (g_Clone_Entry.f x)):=by
 refine Con.byNil (t:= .entr) (xs:=x.1) (fun h=> ?_) ?_
 ·obtain⟨x,_⟩:=x;subst h
  exact fn0 st Tryz.func250 (by kernel_rfl) (by kernel_rfl)
 ·exact fn0 st Tryz.func250 (by kernel_rfl) (Eq.trans (b:=bif Nat.ble ((2*(0+x.1.length)+1024)*24) maxSl then some ((fun v=>[rv (.sc (.sl .entr)) [.o true] v]) x.1)else none) (by kernel_rfl) (by rw[show Nat.ble ((2*(0+x.1.length)+1024)*24) maxSl=true by simp only[Nat.ble_eq,maxSl];simp only[sS]at hp;omega];rfl))
noncomputable def g_Clone_Entry_e:Ent1 Tryz.prog:=entP 250 (ks:=[.sc (.sl .entr)]) g_Clone_Entry.c (fun v=>[rv (.sc (.sl .entr)) [.o true] v]) g_Clone_Entry_c
noncomputable def g_Contains_Tuple:FT (List Tupl×Tupl×Unit) (Bool) (fun x=>sS x.1) (fun _ _=>True):=⟨fun(x0,x1,_)=>
  .cal g_Index_Tuple.c (x0,x1,()) fun c1=>
  .ret (decide (0≤c1)),
 fun(x0,x1,_) hp=>by
  refine Tr.C ?_ fun _ _ _=>Tr.R trivial
  all_goals (grind)⟩
noncomputable def g_Contains_Tuple_e:=ent0 st Tryz.func255 [g_Index_Tuple_e] (ks:=[.sc (.sl .tupl),.st .tupl]) g_Contains_Tuple (fun v=>[(false,[.c (.bool v)])]) fun _=>by kernel_rfl
noncomputable def i_HwOf_o:List (Ent1 Tryz.prog):=[]
def i_HwOf_L0_h:Sh:=⟨[(1,false,[.int .i64]),(8,false,[.sl .arg .entr]),(9,false,[.int .i64]),(10,false,[.int .i64])],[]⟩
noncomputable def i_HwOf_x:Fx:=⟨262,Tryz.f262,[(0,la ⟨[1,8,9,10],[],false,0⟩ ⟨[4,5],[],false,0⟩)],0⟩
noncomputable def i_HwOf_L0_T (v0:Int)(v1:List Entr)(v3:Int)(a:Unit):Tr (Stp (Unit) ((Int))):=
 .grd ((decide (0≤v3))&&(decide (v3<(v1.length:Int))))<|
 .ite ((v1.getD v3.toNat (Ty.zero .entr)).ip==v0) (.ret (.out ((v1.getD v3.toNat (Ty.zero .entr)).hw)))<|
 .ret (.next ())
noncomputable def i_HwOf_L0_d:i_HwOf_L0_h.V→LC i_HwOf_L0_h (Unit) ((Int)) (((Int))⊕(Int×Unit)):=fun(v0,v1,v2,v3,_)=>⟨v3,(),fun v3 _=>(v0,v1,v2,v3,()),fun v3 _=>(decide (v3<v2)),i_HwOf_L0_T v0 v1,up,1,(Int.toNat (v2-v3)),.inl,fun i a=> .inr (i,a),fun _ k w=>Sum.elim (fun p=>k .ret (Sh.enc ⟨[(4,false,[.int .i64]),(5,false,[.bool])],[]⟩ (p,true,()))) (fun _=>k (.exit 0) (Sh.enc ⟨[(4,false,[.undef]),(5,false,[.undef])],[]⟩ ())) w⟩
theorem i_HwOf_L0_s:LS Tryz.prog i_HwOf_x [0] (leC 0 i_HwOf_L0_h i_HwOf_L0_d):=loopC st (orcOf_ok i_HwOf_o) _ i_HwOf_L0_d [] trivial (by kernel_rfl) (fun _=>by kernel_rfl) fun _ _ _ _ _ _=>by kernel_rfl
theorem i_HwOf_L0_k {v0 v2 v3:Int}{v1:List Entr}(h0:0≤v3)(h1:v2≤4611686018427387904)(h2:v2≤(v1.length:Int)):(i_HwOf_L0_d (v0,v1,v2,v3,())).U v2 (fun _ _=>True) (fun _=>True):=
 LC.okU (i:=v3) (a:=()) (fun _ _=>rfl) (fun _=>rfl) rfl h0 h1 trivial fun v3 _ hj hk hv=>by
  refine Tr.G2 ?_ fun _=>Tr.Z (by kernel_rfl)
  all_goals (grind)
noncomputable def i_HwOf:FT (List Entr×Int×Unit) (Int×Bool) (fun x=>sS x.1) (fun _ _=>True):=⟨fun(x0,x1,_)=>
  .lp (i_HwOf_L0_d (x1,x0,(x0.length:Int),0,())).lp fun w1=> .sum w1 (fun p1a0=>
  .ret (p1a0,true))<|
  fun _=>
  .ret (0,false),
 fun(x0,x1,_) hp=>by
  refine Tr.L (i_HwOf_L0_k ?_ ?_ ?_) (fun _ _=>Tr.Sr (Tr.R trivial)) (fun p1a0 _=>Tr.Sl (Tr.R trivial))
  all_goals ((try simp only[i_HwOf_L0_d,LC.lp,LC.ct,Ct.lp]at*)<;>grind)⟩
noncomputable def i_HwOf_e:=entT st i_HwOf_x i_HwOf_o [(leC 0 i_HwOf_L0_h i_HwOf_L0_d)] (ks:=[.sc (.sl .entr),.sc (.int .i64)]) i_HwOf (fun v=>[(false,[.c (.int .i64 v.1)]),(false,[.c (.bool v.2)])]) Tryz.func262 ⟨i_HwOf_L0_s,trivial⟩ fun _=>by kernel_rfl
noncomputable def s_l18Copy:FT (Recv×Unit) (Recv) (fun x=>sm_recv x.1) (fun x v=>sm_recv v∧v=x.1):=⟨fun(x0,_)=>
  .grd (Nat.ble ((2*(0+x0.held.length)+1024)*24) maxSl)<|
  .ret ({x0 with held:=([]++x0.held)}:Recv),
 fun(x0,_) hp=>by
  refine Tr.Gb ?_ fun g0=>Tr.R ?_
  all_goals ((first|grind|(refine⟨by grind, ?_⟩;first|(simp only[List.nil_append];done)|(subst_vars;rfl)|simp_all)))⟩
noncomputable def s_l18Copy_e:=ent0 st Tryz.func265 [] (ks:=[.st .recv]) s_l18Copy (fun v=>[(true,q_recv (.o true) v)]) fun _=>by kernel_rfl
noncomputable def s_Unsent:FF (Conn×Unit) (Bool):=⟨fun(x0,_)=>
  .ite (!(x0.s.data==[])) (.ret true)<|
  .ite x0.s.fin (.ret (!x0.s.done))<|
  .ret false⟩
noncomputable def s_Unsent_e:=ent1 st Tryz.func266 [] (ks:=[.st .conn]) s_Unsent (fun v=>[(false,[.c (.bool v)])]) fun _=>by kernel_rfl
noncomputable def s_l15At_o:List (Ent1 Tryz.prog):=[]
def s_l15At_L0_h:Sh:=⟨[(0,false,[.sl .arg .entr]),(1,false,[.int .i64]),(5,false,[.int .i64])],[]⟩
noncomputable def s_l15At_x:Fx:=⟨277,Tryz.f277,[(0,la ⟨[0,1,5],[],false,0⟩ ⟨[4],[],false,0⟩)],0⟩
noncomputable def s_l15At_L0_T (v0:List Entr)(v1:Int)(v2:Int)(a:Unit):Tr (Stp (Unit) ((Int))):=
 .grd ((decide (0≤v2))&&(decide (v2<(v0.length:Int))))<|
 .ite ((v0.getD v2.toNat (Ty.zero .entr)).ip==v1) (.ret (.out v2))<|
 .ret (.next ())
noncomputable def s_l15At_L0_d:s_l15At_L0_h.V→LC s_l15At_L0_h (Unit) ((Int)) (((Int))⊕(Int×Unit)):=fun(v0,v1,v2,_)=>⟨v2,(),fun v2 _=>(v0,v1,v2,()),fun v2 _=>(decide (v2<(v0.length:Int))),s_l15At_L0_T v0 v1,up,1,(Int.toNat ((v0.length:Int)-v2)),.inl,fun i a=> .inr (i,a),fun _ k w=>Sum.elim (fun p=>k .ret (Sh.enc ⟨[(4,false,[.int .i64])],[]⟩ (p,()))) (fun _=>k (.exit 0) (Sh.enc ⟨[(4,false,[.undef])],[]⟩ ())) w⟩
theorem s_l15At_L0_s:LS Tryz.prog s_l15At_x [0] (leC 0 s_l15At_L0_h s_l15At_L0_d):=loopC st (orcOf_ok s_l15At_o) _ s_l15At_L0_d [] trivial (by kernel_rfl) (fun _=>by kernel_rfl) fun _ _ _ _ _ _=>by kernel_rfl
theorem s_l15At_L0_k {v0:List Entr}{v1 v2:Int}(h0:0≤v2)(h1:(v0.length:Int)≤4611686018427387904):(s_l15At_L0_d (v0,v1,v2,())).U (v0.length:Int) (fun _ _=>True) (fun p=>v2≤p∧p<(v0.length:Int)):=
 LC.okU (i:=v2) (a:=()) (fun _ _=>rfl) (fun _=>rfl) rfl h0 h1 trivial fun v2 _ hj hk hv=>by
  refine Tr.G2 ?_ fun _=>Tr.I (fun _=>Tr.Ro ?_) fun _=>Tr.Rn trivial
  all_goals (grind)
noncomputable def s_l15At:FT (List Entr×Int×Unit) (Int) (fun x=>sS x.1) (fun x v=> -1≤v∧v<x.1.length):=⟨fun(x0,x1,_)=>
  .lp (s_l15At_L0_d (x0,x1,0,())).lp fun w1=> .sum w1 (fun p1a0=>
  .ret p1a0)<|
  fun _=>
  .ret (-1),
 fun(x0,x1,_) hp=>by
  refine Tr.L (s_l15At_L0_k ?_ ?_) (fun _ _=>Tr.Sr (Tr.R ?_)) (fun p1a0 _=>Tr.Sl (Tr.R ?_))
  all_goals ((try simp only[s_l15At_L0_d,LC.lp,LC.ct,Ct.lp]at*)<;>grind)⟩
noncomputable def s_l15At_e:=entT st s_l15At_x s_l15At_o [(leC 0 s_l15At_L0_h s_l15At_L0_d)] (ks:=[.sc (.sl .entr),.sc (.int .i64)]) s_l15At (fun v=>[(false,[.c (.int .i64 v)])]) Tryz.func277 ⟨s_l15At_L0_s,trivial⟩ fun _=>by kernel_rfl
noncomputable def g_Clone_MacRow:FT (List MacRow×Unit) (List MacRow) (fun x=>sS x.1) (fun x v=>v=x.1):=⟨fun x=> .ret x.1,fun _ _=>Tr.R rfl⟩
theorem g_Clone_MacRow_c (x:List MacRow×Unit)(hp:sS x.1):Con Tryz.prog 288 (pvs [.sc (.sl .macRow)] x) ((fun v=>[rv (.sc (.sl .macRow)) [.o true] v]) (g_Clone_MacRow.f x)):=by
 refine Con.byNil (t:= .macRow) (xs:=x.1) (fun h=> ?_) ?_
 ·obtain⟨x,_⟩:=x;subst h
  exact fn0 st Tryz.func288 (by kernel_rfl) (by kernel_rfl)
 ·exact fn0 st Tryz.func288 (by kernel_rfl) (Eq.trans (b:=bif Nat.ble ((2*(0+x.1.length)+1024)*24) maxSl then some ((fun v=>[rv (.sc (.sl .macRow)) [.o true] v]) x.1)else none) (by kernel_rfl) (by rw[show Nat.ble ((2*(0+x.1.length)+1024)*24) maxSl=true by simp only[Nat.ble_eq,maxSl];simp only[sS]at hp;omega];rfl))
noncomputable def g_Clone_MacRow_e:Ent1 Tryz.prog:=entP 288 (ks:=[.sc (.sl .macRow)]) g_Clone_MacRow.c (fun v=>[rv (.sc (.sl .macRow)) [.o true] v]) g_Clone_MacRow_c
noncomputable def g_Clone_Piece:FT (List Piec×Unit) (List Piec) (fun x=>sS x.1) (fun x v=>v=x.1):=⟨fun x=> .ret x.1,fun _ _=>Tr.R rfl⟩
theorem g_Clone_Piece_c (x:List Piec×Unit)(hp:sS x.1):Con Tryz.prog 290 (pvs [.sc (.sl .piec)] x) ((fun v=>[rv (.sc (.sl .piec)) [.o true] v]) (g_Clone_Piece.f x)):=by
 refine Con.byNil (t:= .piec) (xs:=x.1) (fun h=> ?_) ?_
 ·obtain⟨x,_⟩:=x;subst h
  exact fn0 st Tryz.func290 (by kernel_rfl) (by kernel_rfl)
 ·exact fn0 st Tryz.func290 (by kernel_rfl) (Eq.trans (b:=bif Nat.ble ((2*(0+x.1.length)+1024)*24) maxSl then some ((fun v=>[rv (.sc (.sl .piec)) [.o true] v]) x.1)else none) (by kernel_rfl) (by rw[show Nat.ble ((2*(0+x.1.length)+1024)*24) maxSl=true by simp only[Nat.ble_eq,maxSl];simp only[sS]at hp;omega];rfl))
noncomputable def g_Clone_Piece_e:Ent1 Tryz.prog:=entP 290 (ks:=[.sc (.sl .piec)]) g_Clone_Piece.c (fun v=>[rv (.sc (.sl .piec)) [.o true] v]) g_Clone_Piece_c
noncomputable def s_l1Min:FF (Int×Int×Unit) (Int):=⟨fun(x0,x1,_)=>
  .ite (decide (x0<x1)) (.ret x0)<|
  .ret x1⟩
@[grind=] theorem s_l1Min_eq (x0 x1:Int):s_l1Min.f (x0,x1,())=(if x0<x1 then x0 else x1):=by
 simp only[s_l1Min,FF.f,Tr.nice]
 by_cases h:x0<x1<;>simp[h]
noncomputable def s_l1Min_e:=ent1 st Tryz.func297 [] (ks:=[.sc (.int .i64),.sc (.int .i64)]) s_l1Min (fun v=>[(false,[.c (.int .i64 v)])]) fun _=>by kernel_rfl
noncomputable def s_SipStart:FF (Int×Int×Unit) (Sipr):=⟨fun(x0,x1,_)=>
  .ret (⟨(bits .xor .u64 x0 8317987319222330741),(bits .xor .u64 x1 7237128888997146477),(bits .xor .u64 x0 7816392313619706465),(bits .xor .u64 x1 8387220255154660723)⟩:Sipr)⟩
noncomputable def s_SipStart_e:=ent1 st Tryz.func300 [] (ks:=[.sc (.int .u64),.sc (.int .u64)]) s_SipStart (fun v=>[(true,q_sipr v)]) fun _=>by kernel_rfl
noncomputable def s_l10Low_o:List (Ent1 Tryz.prog):=[]
def s_l10Low_L0_h:Sh:=⟨[(0,false,[.str]),(3,false,[.int .u64]),(4,false,[.int .i64])],[]⟩
noncomputable def s_l10Low_x:Fx:=⟨302,Tryz.f302,[(0,la ⟨[0,3,4],[],false,0⟩ ⟨[2,3],[],false,0⟩)],0⟩
noncomputable def s_l10Low_L0_T (v0:Bytes)(v2:Int)(a:Int):Tr (Stp (Int) (Empty)):=
 .grd ((decide (0≤v2))&&(decide (v2<(v0.length:Int))))<|
 .val (bits .or .u64 (IntKind.wrap .u64 (a*256)) (IntKind.wrap .u64 (byteAt v0 v2.toNat))) fun e1=>
 .ret (.next e1)
noncomputable def s_l10Low_L0_d:s_l10Low_L0_h.V→LC s_l10Low_L0_h (Int) (Empty) (Int×Int):=fun(v0,v1,v2,_)=>⟨v2,v1,fun v2 a=>(v0,a,v2,()),fun v2 _=>(decide (0≤v2)),s_l10Low_L0_T v0,dn,(-1),(Int.toNat (v2-0+1)),(fun p=>Empty.elim p),fun i a=>(i,a),fun _ k x=>k (.exit 0) (Sh.enc ⟨[(2,false,[.undef]),(3,false,[.int .u64])],[]⟩ (x.2,()))⟩
theorem s_l10Low_L0_s:LS Tryz.prog s_l10Low_x [0] (leC 0 s_l10Low_L0_h s_l10Low_L0_d):=loopC st (orcOf_ok s_l10Low_o) _ s_l10Low_L0_d [] trivial (by kernel_rfl) (fun _=>by kernel_rfl) fun _ _ _ _ _ _=>by kernel_rfl
theorem s_l10Low_L0_k {v0:Bytes}{v1 v2:Int}(h0:v2≤9223372036854775807)(h1:v2<(v0.length:Int)):(s_l10Low_L0_d (v0,v1,v2,())).D 0 (fun v2 a=>v2<(v0.length:Int)) (fun _=>True):=
 LC.okD (i:=v2) (a:=v1) (fun _ _=>rfl) (fun _=>rfl) rfl h0 (by decide) h1 fun v2 v1 hj hk hv=>by
  refine Tr.G2 ?_ fun _=>Tr.V fun _ _=>Tr.Rn ?_
  all_goals (grind)
noncomputable def s_l10Low:FT (Bytes×Unit) (Int) (fun x=>sS x.1) (fun _ _=>True):=⟨fun(x0,_)=>
  .lp (s_l10Low_L0_d (x0,0,(IntKind.wrap .i64 ((x0.length:Int)-1)),())).lp fun(_,a2_0)=>
  .ret a2_0,
 fun(x0,_) hp=>by
  refine Tr.L (s_l10Low_L0_k ?_ ?_) (fun a2_0 _=>Tr.R trivial) (fun p=>Empty.elim p)
  all_goals ((try simp only[s_l10Low_L0_d,LC.lp,LC.ct,Ct.lp]at*)<;>grind)⟩
noncomputable def s_l10Low_e:=entT st s_l10Low_x s_l10Low_o [(leC 0 s_l10Low_L0_h s_l10Low_L0_d)] (ks:=[.sc .str]) s_l10Low (fun v=>[(false,[.c (.int .u64 v)])]) Tryz.func302 ⟨s_l10Low_L0_s,trivial⟩ fun _=>by kernel_rfl
noncomputable def i_Unsent:FF (Conn×Unit) (Bool):=⟨fun(x0,_)=>
  .ite (!(x0.s.data==[])) (.ret true)<|
  .ite x0.s.fin (.ret (!x0.s.done))<|
  .ret false⟩
noncomputable def i_Unsent_e:=ent1 st Tryz.func308 [] (ks:=[.st .conn]) i_Unsent (fun v=>[(false,[.c (.bool v)])]) fun _=>by kernel_rfl
noncomputable def i_Folded_o:List (Ent1 Tryz.prog):=[]
def i_Folded_L0_h:Sh:=⟨[(0,false,[.int .i64])],[]⟩
noncomputable def i_Folded_x:Fx:=⟨310,Tryz.f310,[(0,la ⟨[0],[],false,0⟩ ⟨[0,2],[],false,0⟩)],0⟩
noncomputable def i_Folded_L0_T (a:Int):Tr (Stp (Int) ((Int))):=
 .ite (decide (65536≤a)) (.val (IntKind.wrap .i64 ((IntKind.wrap .i64 (a.tdiv 65536))+(a.tmod 65536))) fun e1=>
  .ret (.next e1))<|
 .ret (.out a)
noncomputable def i_Folded_L0_d:i_Folded_L0_h.V→LW i_Folded_L0_h (Int) ((Int)):=fun(v0,_)=>⟨v0,fun a=>(a,()),i_Folded_L0_T,Int.toNat v0,fun _ k p=>k (.exit 0) (Sh.enc ⟨[(0,false,[.int .i64]),(2,false,[.undef])],[]⟩ (p,()))⟩
theorem i_Folded_L0_s:LS Tryz.prog i_Folded_x [0] (leW 0 i_Folded_L0_h i_Folded_L0_d):=loopW st (orcOf_ok i_Folded_o) _ i_Folded_L0_d [] trivial (by kernel_rfl) (fun _=>by kernel_rfl) fun _ _ _ _ _=>by kernel_rfl
theorem i_Folded_L0_k {v0:Int}(h0:0≤v0∧v0≤9223372036854775807):(i_Folded_L0_d (v0,())).W (fun p=>0≤p∧p≤65535):=
 LW.okW (a:=v0) (fun a=>0≤a∧a≤9223372036854775807) (fun a=>Int.toNat a) rfl h0 fun v0 hv=>by
  refine Tr.I (fun b0=>Tr.V fun e1 he1=>Tr.Rn ?_) fun b0=>Tr.Ro ?_
  all_goals (((try subst_vars);simp only[decide_eq_true_eq,decide_eq_false_iff_not]at*;first|omega|(rw[fold_step (by omega) (by omega)];omega)|grind))
noncomputable def i_Folded:FT (Int×Unit) (Int) (fun x=>x.1≤9223372036854775807) (fun x v=>0≤v∧v≤65535):=⟨fun(x0,_)=>
  .ite (decide (x0<0)) (.ret 0)<|
  .lp (i_Folded_L0_d (x0,())).lp fun p2a0=>
  .ret p2a0,
 fun(x0,_) hp=>by
  refine Tr.I (fun _=>Tr.R ?_) fun _=>Tr.L (i_Folded_L0_k ?_) (fun a=>Empty.elim a) (fun p2a0 _=>Tr.R ?_)
  all_goals ((try simp only[i_Folded_L0_d,LW.lp,LW.cw,Cw.lp]at*)<;>grind)⟩
noncomputable def i_Folded_e:=entT st i_Folded_x i_Folded_o [(leW 0 i_Folded_L0_h i_Folded_L0_d)] (ks:=[.sc (.int .i64)]) i_Folded (fun v=>[(false,[.c (.int .i64 v)])]) Tryz.func310 ⟨i_Folded_L0_s,trivial⟩ fun _=>by kernel_rfl
noncomputable def i_WordSum_o:List (Ent1 Tryz.prog):=[]
def i_WordSum_L0_h:Sh:=⟨[(0,false,[.str]),(3,false,[.int .i64]),(4,false,[.int .i64])],[]⟩
noncomputable def i_WordSum_x:Fx:=⟨311,Tryz.f311,[(0,la ⟨[0,3,4],[],false,0⟩ ⟨[2,3],[],false,0⟩)],0⟩
noncomputable def i_WordSum_L0_T (v0:Bytes)(v2:Int)(a:Int):Tr (Stp (Int) (Empty)):=
 .ite ((v2.tmod 2)==0) (.grd ((decide (0≤v2))&&(decide (v2<(v0.length:Int))))<|
  .val (IntKind.wrap .i64 (a+(IntKind.wrap .i64 ((IntKind.wrap .i64 (byteAt v0 v2.toNat))*256)))) fun e1=>
  .ret (.next e1))<|
 .grd ((decide (0≤v2))&&(decide (v2<(v0.length:Int))))<|
 .ret (.next (IntKind.wrap .i64 (a+(IntKind.wrap .i64 (byteAt v0 v2.toNat)))))
noncomputable def i_WordSum_L0_d:i_WordSum_L0_h.V→LC i_WordSum_L0_h (Int) (Empty) (Int×Int):=fun(v0,v1,v2,_)=>⟨v2,v1,fun v2 a=>(v0,a,v2,()),fun v2 _=>(decide (v2<(v0.length:Int))),i_WordSum_L0_T v0,up,1,(Int.toNat ((v0.length:Int)-v2)),(fun p=>Empty.elim p),fun i a=>(i,a),fun _ k x=>k (.exit 0) (Sh.enc ⟨[(2,false,[.undef]),(3,false,[.int .i64])],[]⟩ (x.2,()))⟩
theorem i_WordSum_L0_s:LS Tryz.prog i_WordSum_x [0] (leC 0 i_WordSum_L0_h i_WordSum_L0_d):=loopC st (orcOf_ok i_WordSum_o) _ i_WordSum_L0_d [] trivial (by kernel_rfl) (fun _=>by kernel_rfl) fun _ _ _ _ _ _=>by kernel_rfl
theorem i_WordSum_L0_k {v0:Bytes}{v1 v2:Int}(h0:0≤v2)(h1:(v0.length:Int)≤4611686018427387904)(h2:sS v0)(h3:0≤v1∧v1≤65536*v2):(i_WordSum_L0_d (v0,v1,v2,())).U (v0.length:Int) (fun v2 a=>0≤a∧a≤65536*v2) (fun _=>True):=
 LC.okU (i:=v2) (a:=v1) (fun _ _=>rfl) (fun _=>rfl) rfl h0 h1 h3 fun v2 v1 hj hk hv=>by
  refine Tr.I (fun _=>Tr.G2 ?_ fun _=>Tr.V fun _ _=>Tr.Rn ?_) fun _=>Tr.G2 ?_ fun _=>Tr.Rn ?_
  all_goals (grind)
noncomputable def i_WordSum:FT (Bytes×Unit) (Int) (fun x=>sS x.1) (fun x v=>0≤v∧v≤281474976710656):=⟨fun(x0,_)=>
  .lp (i_WordSum_L0_d (x0,0,0,())).lp fun(_,a2_0)=>
  .ret a2_0,
 fun(x0,_) hp=>by
  refine Tr.L (i_WordSum_L0_k ?_ ?_ ?_ ?_) (fun a2_0 _=>Tr.R ?_) (fun p=>Empty.elim p)
  all_goals ((try simp only[i_WordSum_L0_d,LC.lp,LC.ct,Ct.lp]at*)<;>grind)⟩
noncomputable def i_WordSum_e:=entT st i_WordSum_x i_WordSum_o [(leC 0 i_WordSum_L0_h i_WordSum_L0_d)] (ks:=[.sc .str]) i_WordSum (fun v=>[(false,[.c (.int .i64 v)])]) Tryz.func311 ⟨i_WordSum_L0_s,trivial⟩ fun _=>by kernel_rfl
noncomputable def s_Folded_o:List (Ent1 Tryz.prog):=[]
def s_Folded_L0_h:Sh:=⟨[(0,false,[.int .i64])],[]⟩
noncomputable def s_Folded_x:Fx:=⟨316,Tryz.f316,[(0,la ⟨[0],[],false,0⟩ ⟨[0,2],[],false,0⟩)],0⟩
noncomputable def s_Folded_L0_T (a:Int):Tr (Stp (Int) ((Int))):=
 .ite (decide (65535<a)) (.val (IntKind.wrap .i64 ((IntKind.wrap .i64 (a.tdiv 65536))+(a.tmod 65536))) fun e1=>
  .ret (.next e1))<|
 .ret (.out a)
noncomputable def s_Folded_L0_d:s_Folded_L0_h.V→LW s_Folded_L0_h (Int) ((Int)):=fun(v0,_)=>⟨v0,fun a=>(a,()),s_Folded_L0_T,Int.toNat v0,fun _ k p=>k (.exit 0) (Sh.enc ⟨[(0,false,[.int .i64]),(2,false,[.undef])],[]⟩ (p,()))⟩
theorem s_Folded_L0_s:LS Tryz.prog s_Folded_x [0] (leW 0 s_Folded_L0_h s_Folded_L0_d):=loopW st (orcOf_ok s_Folded_o) _ s_Folded_L0_d [] trivial (by kernel_rfl) (fun _=>by kernel_rfl) fun _ _ _ _ _=>by kernel_rfl
theorem s_Folded_L0_k {v0:Int}(h0:0≤v0∧v0≤9223372036854775807):(s_Folded_L0_d (v0,())).W (fun p=>0≤p∧p≤65535):=
 LW.okW (a:=v0) (fun a=>0≤a∧a≤9223372036854775807) (fun a=>Int.toNat a) rfl h0 fun v0 hv=>by
  refine Tr.I (fun b0=>Tr.V fun e1 he1=>Tr.Rn ?_) fun b0=>Tr.Ro ?_
  all_goals (((try subst_vars);simp only[decide_eq_true_eq,decide_eq_false_iff_not]at*;first|omega|(rw[fold_step (by omega) (by omega)];omega)|grind))
noncomputable def s_Folded:FT (Int×Unit) (Int) (fun x=>x.1≤9223372036854775807) (fun x v=>0≤v∧v≤65535):=⟨fun(x0,_)=>
  .ite (decide (x0<0)) (.ret 0)<|
  .lp (s_Folded_L0_d (x0,())).lp fun p2a0=>
  .ret p2a0,
 fun(x0,_) hp=>by
  refine Tr.I (fun _=>Tr.R ?_) fun _=>Tr.L (s_Folded_L0_k ?_) (fun a=>Empty.elim a) (fun p2a0 _=>Tr.R ?_)
  all_goals ((try simp only[s_Folded_L0_d,LW.lp,LW.cw,Cw.lp]at*)<;>grind)⟩
noncomputable def s_Folded_e:=entT st s_Folded_x s_Folded_o [(leW 0 s_Folded_L0_h s_Folded_L0_d)] (ks:=[.sc (.int .i64)]) s_Folded (fun v=>[(false,[.c (.int .i64 v)])]) Tryz.func316 ⟨s_Folded_L0_s,trivial⟩ fun _=>by kernel_rfl
noncomputable def s_WordSum_o:List (Ent1 Tryz.prog):=[]
def s_WordSum_L0_h:Sh:=⟨[(0,false,[.str]),(3,false,[.int .i64]),(4,false,[.int .i64])],[]⟩
noncomputable def s_WordSum_x:Fx:=⟨317,Tryz.f317,[(0,la ⟨[0,3,4],[],false,0⟩ ⟨[2,3],[],false,0⟩)],0⟩
noncomputable def s_WordSum_L0_T (v0:Bytes)(v2:Int)(a:Int):Tr (Stp (Int) (Empty)):=
 .grd ((decide (0≤v2))&&(decide (v2<(v0.length:Int))))<|
 .val (IntKind.wrap .i64 (a+(IntKind.wrap .i64 (256*(IntKind.wrap .i64 (byteAt v0 v2.toNat)))))) fun e1=>
 .ite (decide ((IntKind.wrap .i64 (v2+1))<(v0.length:Int))) (.grd ((decide (0≤(IntKind.wrap .i64 (v2+1))))&&(decide ((IntKind.wrap .i64 (v2+1))<(v0.length:Int))))<|
  .val (IntKind.wrap .i64 (e1+(IntKind.wrap .i64 (byteAt v0 ((IntKind.wrap .i64 (v2+1)).toNat))))) fun e2=>
  .ret (.next e2))<|
 .ret (.next e1)
noncomputable def s_WordSum_L0_d:s_WordSum_L0_h.V→LC s_WordSum_L0_h (Int) (Empty) (Int×Int):=fun(v0,v1,v2,_)=>⟨v2,v1,fun v2 a=>(v0,a,v2,()),fun v2 _=>(decide (v2<(v0.length:Int))),s_WordSum_L0_T v0,fun v2=>IntKind.wrap .i64 (v2+2),2,(Int.toNat (((v0.length:Int)-v2+1)/2)),(fun p=>Empty.elim p),fun i a=>(i,a),fun _ k x=>k (.exit 0) (Sh.enc ⟨[(2,false,[.undef]),(3,false,[.int .i64])],[]⟩ (x.2,()))⟩
theorem s_WordSum_L0_s:LS Tryz.prog s_WordSum_x [0] (leC 0 s_WordSum_L0_h s_WordSum_L0_d):=loopC st (orcOf_ok s_WordSum_o) _ s_WordSum_L0_d [] trivial (by kernel_rfl) (fun _=>by kernel_rfl) fun _ _ _ _ _ _=>by kernel_rfl
theorem s_WordSum_L0_k {v0:Bytes}{v1 v2:Int}(h0:0≤v2)(h1:(v0.length:Int)≤4611686018427387904)(h2:sS v0)(h3:0≤v1∧v1≤65536*v2):(s_WordSum_L0_d (v0,v1,v2,())).S (fun v2 a=>0≤a∧a≤65536*v2) (fun _=>True):=by
 refine LC.okS h3 (fun j a hj hv=>⟨⟨?_, ?_⟩, ?_⟩) (fun a hv=> ?_)
 ·simp only[s_WordSum_L0_d,decide_eq_true_eq]at*;omega
 ·simp only[s_WordSum_L0_d]at*;exact wrap64 (by omega) (by omega)
 ·refine Tr.G2 ?_ fun _=>Tr.V fun _ _=>Tr.I (fun _=>Tr.G2 ?_ fun _=>Tr.V fun _ _=>Tr.Rn ?_) fun _=>Tr.Rn ?_
  all_goals (try simp only[s_WordSum_L0_d]at*)<;>(grind)
 ·simp only[s_WordSum_L0_d,decide_eq_false_iff_not]at*;omega
noncomputable def s_WordSum:FT (Bytes×Unit) (Int) (fun x=>sS x.1) (fun x v=>0≤v∧v≤281474976710656):=⟨fun(x0,_)=>
  .lp (s_WordSum_L0_d (x0,0,0,())).lp fun(_,a3_0)=>
  .ret a3_0,
 fun(x0,_) hp=>by
  refine Tr.L (s_WordSum_L0_k ?_ ?_ ?_ ?_) (fun a3_0 _=>Tr.R ?_) (fun p=>Empty.elim p)
  all_goals ((try simp only[s_WordSum_L0_d,LC.lp,LC.ct,Ct.lp]at*)<;>grind)⟩
noncomputable def s_WordSum_e:=entT st s_WordSum_x s_WordSum_o [(leC 0 s_WordSum_L0_h s_WordSum_L0_d)] (ks:=[.sc .str]) s_WordSum (fun v=>[(false,[.c (.int .i64 v)])]) Tryz.func317 ⟨s_WordSum_L0_s,trivial⟩ fun _=>by kernel_rfl
noncomputable def s_KeyMac:FT (Int×Int×Unit) (Mac) (fun _=>True) (fun x v=>sm_mac v):=⟨fun(x0,x1,_)=>
  .ret (⟨false,x0,x1,[]⟩:Mac),
 fun(x0,x1,_) hp=>by
  refine Tr.R ?_
  all_goals (grind)⟩
noncomputable def s_KeyMac_e:=ent0 st Tryz.func318 [] (ks:=[.sc (.int .u64),.sc (.int .u64)]) s_KeyMac (fun v=>[(true,q_mac (.o true) v)]) fun _=>by kernel_rfl
noncomputable def s_TableMac:FT (List MacRow×Unit) (Mac) (fun x=>sL sm_macRow x.1) (fun x v=>sm_mac v):=⟨fun(x0,_)=>
  .grd (Nat.ble ((2*(0+x0.length)+1024)*24) maxSl)<|
  .ret (⟨true,0,0,([]++x0)⟩:Mac),
 fun(x0,_) hp=>by
  refine Tr.Gb ?_ fun _=>Tr.R ?_
  all_goals (grind)⟩
noncomputable def s_TableMac_e:=ent0 st Tryz.func320 [] (ks:=[.sc (.sl .macRow)]) s_TableMac (fun v=>[(true,q_mac (.o true) v)]) fun _=>by kernel_rfl
noncomputable def s_l18Slots_o:List (Ent1 Tryz.prog):=[]
def s_l18Slots_L0_h:Sh:=⟨[(1,false,[.ptr 0 0]),(3,false,[.own 1]),(4,false,[.int .i64])],[.box [.st .recv [.sl .arg]],.arr .i64 false true]⟩
def s_l18Slots_L1_0_h:Sh:=⟨[(1,false,[.ptr 0 0]),(3,false,[.own 1]),(5,false,[.int .i64]),(6,false,[.int .i64])],[.box [.st .recv [.sl .arg]],.arr .i64 false true]⟩
def s_l18Slots_L1_h:Sh:=⟨[(1,false,[.ptr 0 0]),(3,false,[.own 1]),(5,false,[.int .i64])],[.box [.st .recv [.sl .arg]],.arr .i64 false true]⟩
noncomputable def s_l18Slots_x:Fx:=⟨331,Tryz.f331,[(0,la ⟨[1,3,4],[],false,0⟩ ⟨[1,2,3],[],false,0⟩),(4,la ⟨[1,3,5,6],[],false,0⟩ ⟨[1,2,3,5],[],false,0⟩),(2,la ⟨[1,3,5],[],false,0⟩ ⟨[2,3],[],false,0⟩)],0⟩
noncomputable def s_l18Slots_L0_T (v0:Int)(a:List Int):Tr (Stp (List Int) (Empty)):=
 .grd ((decide (0≤v0))&&(decide (v0<(a.length:Int))))<|
 .ret (.next (a.set v0.toNat (-1)))
noncomputable def s_l18Slots_L0_d:s_l18Slots_L0_h.V→LC s_l18Slots_L0_h (List Int) (Empty) (Int×(List Int)):=fun(v0,v1,v2,_)=>⟨v0,v2,fun v0 a=>(v0,v1,a,()),fun v0 a=>(decide (v0<(a.length:Int))),s_l18Slots_L0_T,up,1,(Int.toNat ((v2.length:Int)-v0)),(fun p=>Empty.elim p),fun i a=>(i,a),fun _ k x=>k (.exit 0) (Sh.enc ⟨[(1,false,[.ptr 0 0]),(2,false,[.undef]),(3,false,[.own 1])],[.box [.st .recv [.sl .arg]],.arr .i64 false true]⟩ (v1,x.2,()))⟩
theorem s_l18Slots_L0_s:LS Tryz.prog s_l18Slots_x [0] (leC 0 s_l18Slots_L0_h s_l18Slots_L0_d):=loopC st (orcOf_ok s_l18Slots_o) _ s_l18Slots_L0_d [] trivial (by kernel_rfl) (fun _=>by kernel_rfl) fun _ _ _ _ _ _=>by kernel_rfl
theorem s_l18Slots_L0_k {v0:Int}{v1:Recv}{v2:List Int}(h0:0≤v0)(h1:(v2.length:Int)≤4611686018427387904)(h2:sS v2)(h3:v2.length=v2.length):(s_l18Slots_L0_d (v0,v1,v2,())).S (fun v0 a=>a.length=v2.length∧a.length=v2.length) (fun _=>True):=by
 refine LC.okS ⟨rfl,h3⟩ (fun j a hj hv=>⟨⟨?_, ?_⟩, ?_⟩) (fun a hv=> ?_)
 ·simp only[s_l18Slots_L0_d,decide_eq_true_eq]at*;omega
 ·simp only[s_l18Slots_L0_d]at*;exact upw (by omega) (by omega)
 ·refine Tr.G2 ?_ fun _=>Tr.Rn ?_
  all_goals (try simp only[s_l18Slots_L0_d]at*)<;>(grind)
 ·simp only[s_l18Slots_L0_d,decide_eq_false_iff_not]at*;omega
noncomputable def s_l18Slots_L1_0_T (vb0:Int)(vb2:Recv)(a:Int×List Int):Tr (Stp (Int×List Int) ((List Int))):=
 .grd ((decide (0≤vb0))&&(decide (vb0<(vb2.held.length:Int))))<|
 .ite (decide (a.1<(((vb2.held.getD vb0.toNat (Ty.zero .piec)).text).length:Int))) (.grd ((decide (0≤vb0))&&(decide (vb0<(vb2.held.length:Int))))<|
  .val (IntKind.wrap .i64 ((vb2.held.getD vb0.toNat (Ty.zero .piec)).off+a.1)) fun e2=>
  .grd ((decide (0≤vb0))&&(decide (vb0<(vb2.held.length:Int))))<|
  .grd ((decide (0≤a.1))&&(decide (a.1<(((vb2.held.getD vb0.toNat (Ty.zero .piec)).text).length:Int))))<|
  .val (IntKind.wrap .i64 (byteAt ((vb2.held.getD vb0.toNat (Ty.zero .piec)).text) a.1.toNat)) fun e3=>
  .grd ((decide (0≤e2))&&(decide (e2<(a.2.length:Int))))<|
  .ret (.next ((IntKind.wrap .i64 (a.1+1)),(a.2.set e2.toNat e3))))<|
 .ret (.out a.2)
noncomputable def s_l18Slots_L1_0_d:s_l18Slots_L1_0_h.V→LW s_l18Slots_L1_0_h (Int×List Int) ((List Int)):=fun(vb0,vb1,vb2,vb3,_)=>⟨(vb1,vb3),fun a=>(vb0,a.1,vb2,a.2,()),s_l18Slots_L1_0_T vb0 vb2,Int.toNat (((vb2.held.getD vb0.toNat (Ty.zero .piec)).text.length:Int)-vb1),fun _ k p=>k (.exit 4) (Sh.enc ⟨[(1,false,[.ptr 0 0]),(2,false,[.undef]),(3,false,[.own 1]),(5,false,[.int .i64])],[.box [.st .recv [.sl .arg]],.arr .i64 false true]⟩ (vb0,vb2,p,()))⟩
theorem s_l18Slots_L1_0_s:LS Tryz.prog s_l18Slots_x [1,0] (leW 4 s_l18Slots_L1_0_h s_l18Slots_L1_0_d):=loopW st (orcOf_ok s_l18Slots_o) _ s_l18Slots_L1_0_d [] trivial (by kernel_rfl) (fun _=>by kernel_rfl) fun _ _ _ _ _=>by kernel_rfl
theorem s_l18Slots_L1_0_k {vb0 vb1:Int}{vb2:Recv}{vb3:List Int}(h0:0≤vb0)(h1:vb0<(vb2.held.length:Int))(h2:smE po vb2.held)(h3:sm_recv vb2)(h4:0≤vb1∧vb3.length=33):(s_l18Slots_L1_0_d (vb0,vb1,vb2,vb3,())).W (fun p=>p.length=33):=
 LW.okW (a:=(vb1,vb3)) (fun a=>0≤a.1∧a.2.length=33) (fun a=>Int.toNat (((vb2.held.getD vb0.toNat (Ty.zero .piec)).text.length:Int)-a.1)) rfl h4 fun(vb1,vb3) hv=>by
  refine Tr.G2 ?_ fun g0=>Tr.I (fun b1=>Tr.G2 ?_ fun g2=>Tr.V fun e2 he2=>Tr.G2 ?_ fun g3=>Tr.G2 ?_ fun g4=>Tr.V fun e3 he3=>Tr.G2 ?_ fun g5=>Tr.Rn ?_) fun b1=>Tr.Ro ?_
  all_goals ((have hp:=po_at (i:=vb0.toNat) h2 (by omega);simp only[po]at hp;grind))
noncomputable def s_l18Slots_L1_T (v1:Recv)(v0:Int)(a:List Int):Tr (Stp (List Int) (Empty)):=
 .lp (s_l18Slots_L1_0_d (v0,0,v1,a,())).lp fun p4a0=>
 .ret (.next p4a0)
noncomputable def s_l18Slots_L1_d:s_l18Slots_L1_h.V→LC s_l18Slots_L1_h (List Int) (Empty) (Int×(List Int)):=fun(v0,v1,v2,_)=>⟨v0,v2,fun v0 a=>(v0,v1,a,()),fun v0 _=>(decide (v0<(v1.held.length:Int))),s_l18Slots_L1_T v1,up,1,(Int.toNat ((v1.held.length:Int)-v0)),(fun p=>Empty.elim p),fun i a=>(i,a),fun _ k x=>k (.exit 2) (Sh.enc ⟨[(2,false,[.undef]),(3,false,[.own 0])],[.arr .i64 false true]⟩ (x.2,()))⟩
theorem s_l18Slots_L1_s:LS Tryz.prog s_l18Slots_x [1] (leC 2 s_l18Slots_L1_h s_l18Slots_L1_d):=loopC st (orcOf_ok s_l18Slots_o) _ s_l18Slots_L1_d [(leW 4 s_l18Slots_L1_0_h s_l18Slots_L1_0_d)] ⟨s_l18Slots_L1_0_s,trivial⟩ (by kernel_rfl) (fun _=>by kernel_rfl) fun _ _ _ _ _ _=>by kernel_rfl
theorem s_l18Slots_L1_k {v0:Int}{v1:Recv}{v2:List Int}(h0:0≤v0)(h1:(v1.held.length:Int)≤4611686018427387904)(h2:smE po v1.held)(h3:sm_recv v1)(h4:v2.length=33):(s_l18Slots_L1_d (v0,v1,v2,())).U (v1.held.length:Int) (fun v0 a=>a.length=33) (fun _=>True):=
 LC.okU (i:=v0) (a:=v2) (fun _ _=>rfl) (fun _=>rfl) rfl h0 h1 h4 fun v0 v2 hj hk hv=>by
  refine Tr.L (s_l18Slots_L1_0_k ?_ ?_ ?_ ?_ ?_) (fun a=>Empty.elim a) (fun p4a0 _=>Tr.Rn ?_)
  all_goals ((try simp only[s_l18Slots_L1_0_d,LW.lp,LW.cw,Cw.lp]at*)<;>grind)
noncomputable def s_l18Slots:FT (Recv×Unit) (List Int) (fun x=>sm_recv x.1∧smE po x.1.held) (fun x v=>sS v∧v.length=33):=⟨fun(x0,_)=>
  .lp (s_l18Slots_L0_d (0,x0,(List.replicate 33 0),())).lp fun(_,a1_0)=>
  .lp (s_l18Slots_L1_d (0,x0,a1_0,())).lp fun(_,a5_0)=>
  .ret a5_0,
 fun(x0,_) hp=>by
  refine Tr.L (s_l18Slots_L0_k ?_ ?_ ?_ ?_) (fun a1_0 _=>Tr.L (s_l18Slots_L1_k ?_ ?_ ?_ ?_ ?_) (fun a5_0 _=>Tr.R ?_) (fun p=>Empty.elim p)) (fun p=>Empty.elim p)
  all_goals ((try simp only[s_l18Slots_L0_d,s_l18Slots_L1_d,LC.lp,LC.ct,Ct.lp]at*)<;>grind)⟩
noncomputable def s_l18Slots_e:=entT st s_l18Slots_x s_l18Slots_o [(leC 0 s_l18Slots_L0_h s_l18Slots_L0_d),(leC 2 s_l18Slots_L1_h s_l18Slots_L1_d)] (ks:=[.st .recv]) s_l18Slots (fun v=>[(false,[sc (.o true) .i64 v])]) Tryz.func331 ⟨s_l18Slots_L0_s,s_l18Slots_L1_s,trivial⟩ fun _=>by kernel_rfl
noncomputable def s_l18Free_o:List (Ent1 Tryz.prog):=[]
def s_l18Free_L0_h:Sh:=⟨[(0,false,[.sl .arg .i64]),(5,false,[.int .i64])],[]⟩
noncomputable def s_l18Free_x:Fx:=⟨332,Tryz.f332,[(0,la ⟨[0,5],[],false,0⟩ ⟨[4],[],false,0⟩)],0⟩
noncomputable def s_l18Free_L0_T (v0:List Int)(v1:Int)(a:Unit):Tr (Stp (Unit) ((Unit))):=
 .grd ((decide (0≤v1))&&(decide (v1<(v0.length:Int))))<|
 .ite (decide (0≤(v0.getD v1.toNat 0))) (.ret (.out ()))<|
 .ret (.next ())
noncomputable def s_l18Free_L0_d:s_l18Free_L0_h.V→LC s_l18Free_L0_h (Unit) ((Unit)) (((Unit))⊕(Int×Unit)):=fun(v0,v1,_)=>⟨v1,(),fun v1 _=>(v0,v1,()),fun v1 _=>(decide (v1<(v0.length:Int))),s_l18Free_L0_T v0,up,1,(Int.toNat ((v0.length:Int)-v1)),.inl,fun i a=> .inr (i,a),fun _ k w=>Sum.elim (fun _=>k .ret (Sh.enc ⟨[(4,false,[.bool])],[]⟩ (false,()))) (fun _=>k (.exit 0) (Sh.enc ⟨[(4,false,[.undef])],[]⟩ ())) w⟩
theorem s_l18Free_L0_s:LS Tryz.prog s_l18Free_x [0] (leC 0 s_l18Free_L0_h s_l18Free_L0_d):=loopC st (orcOf_ok s_l18Free_o) _ s_l18Free_L0_d [] trivial (by kernel_rfl) (fun _=>by kernel_rfl) fun _ _ _ _ _ _=>by kernel_rfl
theorem s_l18Free_L0_k {v0:List Int}{v1:Int}(h0:0≤v1)(h1:(v0.length:Int)≤4611686018427387904):(s_l18Free_L0_d (v0,v1,())).U (v0.length:Int) (fun _ _=>True) (fun _=>True):=
 LC.okU (i:=v1) (a:=()) (fun _ _=>rfl) (fun _=>rfl) rfl h0 h1 trivial fun v1 _ hj hk hv=>by
  refine Tr.G2 ?_ fun _=>Tr.Z (by kernel_rfl)
  all_goals (grind)
noncomputable def s_l18Free:FT (List Int×Int×Unit) (Bool) (fun x=>sS x.1∧0≤x.2.1) (fun _ _=>True):=⟨fun(x0,x1,_)=>
  .lp (s_l18Free_L0_d (x0,x1,())).lp fun w1=> .sum w1 (fun _=>
  .ret false)<|
  fun _=>
  .ret true,
 fun(x0,x1,_) hp=>by
  refine Tr.L (s_l18Free_L0_k ?_ ?_) (fun _ _=>Tr.Sr (Tr.R trivial)) (fun _ _=>Tr.Sl (Tr.R trivial))
  all_goals ((try simp only[s_l18Free_L0_d,LC.lp,LC.ct,Ct.lp]at*)<;>grind)⟩
noncomputable def s_l18Free_e:=entT st s_l18Free_x s_l18Free_o [(leC 0 s_l18Free_L0_h s_l18Free_L0_d)] (ks:=[.sc (.sl .i64),.sc (.int .i64)]) s_l18Free (fun v=>[(false,[.c (.bool v)])]) Tryz.func332 ⟨s_l18Free_L0_s,trivial⟩ fun _=>by kernel_rfl
noncomputable def s_l18Pieces_o:List (Ent1 Tryz.prog):=[]
def s_l18Pieces_L0_h:Sh:=⟨[(0,false,[.sl .arg .i64]),(1,false,[.int .i64]),(5,false,[.own 0]),(6,false,[.int .i64])],[.arr .piec false true]⟩
noncomputable def s_l18Pieces_x:Fx:=⟨333,Tryz.f333,[(0,la ⟨[0,1,5,6],[],false,0⟩ ⟨[4,5],[],false,0⟩),(3000007,rA 0 44)],0⟩
noncomputable def s_l18Pieces_L0_T (v0:List Int)(v1:Int)(v2:Int)(a:List Piec):Tr (Stp (List Piec) (Empty)):=
 .grd ((decide (0≤v2))&&(decide (v2<(v0.length:Int))))<|
 .ite (decide ((v0.getD v2.toNat 0)<0)) (.ret (.next a))<|
 .bnd (β:=Bool×Unit) (.ite (decide (0<(a.length:Int))) (.grd ((decide (0≤(IntKind.wrap .i64 ((a.length:Int)-1))))&&(decide ((IntKind.wrap .i64 ((a.length:Int)-1))<(a.length:Int))))<|
   .val ((a.getD (IntKind.wrap .i64 ((a.length:Int)-1)).toNat (Ty.zero .piec)).off) fun e1=>
   .grd ((decide (0≤(IntKind.wrap .i64 ((a.length:Int)-1))))&&(decide ((IntKind.wrap .i64 ((a.length:Int)-1))<(a.length:Int))))<|
   .val ((a.getD (IntKind.wrap .i64 ((a.length:Int)-1)).toNat (Ty.zero .piec)).text) fun e2=>
   .ret (((IntKind.wrap .i64 (e1+(e2.length:Int)))==(IntKind.wrap .i64 (v2-v1))),()))<|
  .ret (false,())) fun(u3a0,_)=>
 .ite u3a0 (.grd ((decide (0≤(IntKind.wrap .i64 ((a.length:Int)-1))))&&(decide ((IntKind.wrap .i64 ((a.length:Int)-1))<(a.length:Int))))<|
  .val ((a.getD (IntKind.wrap .i64 ((a.length:Int)-1)).toNat (Ty.zero .piec)).text) fun e4=>
  .grd ((decide (0≤v2))&&(decide (v2<(v0.length:Int))))<|
  .grd (Nat.ble (e4.length+(toBytes [(IntKind.wrap .u8 (v0.getD v2.toNat 0))]).length) maxStr)<|
  .grd ((decide (0≤(IntKind.wrap .i64 ((a.length:Int)-1))))&&(decide ((IntKind.wrap .i64 ((a.length:Int)-1))<(a.length:Int))))<|
  .val (a.set (IntKind.wrap .i64 ((a.length:Int)-1)).toNat (⟨(a.getD (IntKind.wrap .i64 ((a.length:Int)-1)).toNat (Ty.zero .piec)).off,(e4++(toBytes [(IntKind.wrap .u8 (v0.getD v2.toNat 0))]))⟩:Piec)) fun l5=>
  .ret (.next l5))<|
 .grd ((decide (0≤v2))&&(decide (v2<(v0.length:Int))))<|
 .grd (Nat.ble ((2*(a.length+1)+1024)*24) maxSl)<|
 .val (a++[(⟨(IntKind.wrap .i64 (v2-v1)),(toBytes [(IntKind.wrap .u8 (v0.getD v2.toNat 0))])⟩:Piec)]) fun l6=>
 .ret (.next l6)
noncomputable def s_l18Pieces_L0_d:s_l18Pieces_L0_h.V→LC s_l18Pieces_L0_h (List Piec) (Empty) (Int×(List Piec)):=fun(v0,v1,v2,v3,_)=>⟨v2,v3,fun v2 a=>(v0,v1,v2,a,()),fun v2 _=>(decide (v2<(v0.length:Int))),s_l18Pieces_L0_T v0 v1,up,1,(Int.toNat ((v0.length:Int)-v2)),(fun p=>Empty.elim p),fun i a=>(i,a),fun _ k x=>k (.exit 0) (Sh.enc ⟨[(4,false,[.undef]),(5,false,[.own 0])],[.arr .piec false true]⟩ (x.2,()))⟩
theorem s_l18Pieces_L0_s:LS Tryz.prog s_l18Pieces_x [0] (leC 0 s_l18Pieces_L0_h s_l18Pieces_L0_d):=loopC st (orcOf_ok s_l18Pieces_o) _ s_l18Pieces_L0_d [] trivial (by kernel_rfl) (fun _=>by kernel_rfl) fun _ _ _ _ _ _=>by kernel_rfl
theorem s_l18Pieces_L0_k {v0:List Int}{v1 v2:Int}{v3:List Piec}(h0:0≤v2)(h1:(v0.length:Int)≤4611686018427387904)(h2:sS v0)(h3:(v3.length:Int)≤v2∧smE (pl v2) v3):(s_l18Pieces_L0_d (v0,v1,v2,v3,())).U (v0.length:Int) (fun v2 a=>(a.length:Int)≤v2∧smE (pl v2) a) (fun _=>True):=
 LC.okU (i:=v2) (a:=v3) (fun _ _=>rfl) (fun _=>rfl) rfl h0 h1 h3 fun v2 v3 hj hk hv=>by
  refine Tr.G2 ?_ fun g0=>Tr.I (fun b1=>Tr.Rn ?_) fun b1=>Tr.B (Q':=fun w=>(w.1=true→0<v3.length)) (Tr.I (fun b2=>Tr.G2 ?_ fun g3=>Tr.V fun e1 he1=>Tr.G2 ?_ fun g4=>Tr.V fun e2 he2=>Tr.R ?_) fun b2=>Tr.R ?_) (fun(u3a0,_) hj3 qj3=>Tr.I (fun b2=>Tr.G2 ?_ fun g3=>Tr.V fun e4 he4=>Tr.G2 ?_ fun g4=>Tr.Gb ?_ fun g5=>Tr.G2 ?_ fun g6=>Tr.V fun l5 hl5=>Tr.Rn ?_) fun b2=>Tr.G2 ?_ fun g3=>Tr.Gb ?_ fun g4=>Tr.V fun l6 hl6=>Tr.Rn ?_)
  all_goals ((try simp only[Tr.nice,letK]at*)<;>(have hp:=pl_get hv.2 (show(0:Int)≤v2 by omega);have hu:=pl_up hv.2;have hw:0<v3.length→IntKind.wrap .i64 ((v3.length:Int)-1)=v3.length-1:=fun h=>wrap64 (by omega) (by simp only[sS]at h2;omega);have hq:=hp (IntKind.wrap .i64 ((v3.length:Int)-1)).toNat;(try rw[←he4]at hq);clear hj hp;first|omega|(simp only[toBytes_length,List.length_cons,List.length_nil,maxStr,sS]at*;omega)|(subst hl5;exact⟨by rw[List.length_set];omega,pl_set hu (by simp only[pl,List.length_append,toBytes_length,List.length_cons,List.length_nil];omega)⟩)|(subst hl6;exact⟨by simp only[List.length_append,List.length_cons,List.length_nil];omega,pl_snoc hu (by simp only[pl,toBytes_length,List.length_cons,List.length_nil];omega)⟩)|grind))
noncomputable def s_l18Pieces:FT (List Int×Int×Unit) (List Piec) (fun x=>sS x.1∧0≤x.2.1∧x.2.1≤4294967296) (fun x v=>sL sm_piec v):=⟨fun(x0,x1,_)=>
  .lp (s_l18Pieces_L0_d (x0,x1,x1,[],())).lp fun(_,a7_0)=>
  .ret a7_0,
 fun(x0,x1,_) hp=>by
  refine Tr.L (s_l18Pieces_L0_k ?_ ?_ ?_ ?_) (fun a7_0 i7=>Tr.R ?_) (fun p=>Empty.elim p)
  all_goals ((try simp only[s_l18Pieces_L0_d,LC.lp,LC.ct,Ct.lp]at*)<;>grind [pl_sm])⟩
noncomputable def s_l18Pieces_e:=entT st s_l18Pieces_x s_l18Pieces_o [(leC 0 s_l18Pieces_L0_h s_l18Pieces_L0_d)] (ks:=[.sc (.sl .i64),.sc (.int .i64)]) s_l18Pieces (fun v=>[(false,[sc (.o true) .piec v])]) Tryz.func333 ⟨s_l18Pieces_L0_s,trivial⟩ fun _=>by kernel_rfl
noncomputable def s_l21State_o:List (Ent1 Tryz.prog):=[]
def s_l21State_J5_a:An:=⟨⟨[],[],false,0⟩,⟨[1,2],[],false,0⟩,⟨[],[]⟩,[(.ret,⟨[(1,false,[.ptr 0 0]),(2,false,[.int .i64])],[.box [.st .conn [.sl .arg]]]⟩),(.normal,⟨[(1,false,[.ptr 0 0]),(2,false,[.int .i64])],[.box [.st .conn [.sl .arg]]]⟩)]⟩
noncomputable def s_l21State_x:Fx:=⟨334,Tryz.f334,[(1000005,s_l21State_J5_a),(3000006,rA 0 12)],0⟩
noncomputable def s_l21State:FT (Conn×Unit) (Int) (fun x=>sm_conn x.1) (fun _ _=>True):=⟨fun(x0,_)=>
  .bnd (β:=(Int×Conn×Unit)⊕(Int×Conn×Unit)) (.ite (x0.state==1) (.ite x0.r.done (.ret (.inl (4,x0,())))<|
    .ret (.inr ((0,x0,()))))<|
   .ite (x0.state==2) (.bnd (β:=Bool×Unit) (.ite x0.s.done (.ret (x0.r.done,()))<|
     .ret (false,())) fun(u1a0,_)=>
    .ite u1a0 (.ret (.inl (7,x0,())))<|
    .ite x0.s.done (.ret (.inl (3,x0,())))<|
    .ite x0.r.done (.ret (.inl (5,x0,())))<|
    .ret (.inr ((0,x0,()))))<|
   .ite (x0.state==3) (.ite x0.r.done (.ret (.inl (7,x0,())))<|
    .ret (.inr ((0,x0,()))))<|
   .ite (x0.state==5) (.ite x0.s.done (.ret (.inl (7,x0,())))<|
    .ret (.inr ((0,x0,()))))<|
   .ite (x0.state==6) (.ite x0.s.done (.ret (.inl (8,x0,())))<|
    .ret (.inr ((0,x0,()))))<|
   .ret (.inr ((0,x0,())))) fun w2=> .sum w2 (fun(u2a0,_,_)=>
  .ret u2a0)<|
  fun(_,u2b1,_)=>
  .ret u2b1.state,
 fun(x0,_) hp=>by
  refine Tr.B (Q':=(Sum.elim (fun w=>sm_conn w.2.1) (fun w=>sm_conn w.2.1))) (Tr.I (fun _=>Tr.I (fun _=>Tr.R ?_) fun _=>Tr.R ?_) fun _=>Tr.I (fun _=>Tr.B (Q':=fun _=>True) (Tr.F (by kernel_rfl) trivial) (fun(u1a0,_) _ _=>Tr.I (fun _=>Tr.R ?_) fun _=>Tr.I (fun _=>Tr.R ?_) fun _=>Tr.I (fun _=>Tr.R ?_) fun _=>Tr.R ?_)) fun _=>Tr.I (fun _=>Tr.I (fun _=>Tr.R ?_) fun _=>Tr.R ?_) fun _=>Tr.I (fun _=>Tr.I (fun _=>Tr.R ?_) fun _=>Tr.R ?_) fun _=>Tr.I (fun _=>Tr.I (fun _=>Tr.R ?_) fun _=>Tr.R ?_) fun _=>Tr.R ?_) (fun _ _ q2=>Tr.E q2 (fun(u2a0,u2a1,_) _=>Tr.R trivial) (fun(u2b0,u2b1,_) _=>Tr.R trivial))
  all_goals ((try simp only[Tr.nice,letK]at*)<;>grind)⟩
noncomputable def s_l21State_e:=entT st s_l21State_x s_l21State_o [] (ks:=[.st .conn]) s_l21State (fun v=>[(false,[.c (.int .i64 v)])]) Tryz.func334 trivial fun _=>by kernel_rfl
noncomputable def s_l10Turn:FT (Int×Int×Unit) (Int) (fun x=>0≤x.2.1) (fun _ _=>True):=⟨fun(x0,x1,_)=>
  .grd (decide (0≤x1))<|
  .grd (decide (0≤(IntKind.wrap .u64 (64-x1))))<|
  .val (bits .or .u64 (IntKind.wrap .u64 (x0*2 ^ (min x1.toNat 64))) (x0.fdiv (2 ^ (min (IntKind.wrap .u64 (64-x1)).toNat 64)))) fun e1=>
  .ret e1,
 fun(x0,x1,_) hp=>by
  refine Tr.G1 ?_ fun _=>Tr.G1 ?_ fun _=>Tr.F (by kernel_rfl) trivial
  all_goals (grind)⟩
noncomputable def s_l10Turn_e:=ent0 st Tryz.func343 [] (ks:=[.sc (.int .u64),.sc (.int .u64)]) s_l10Turn (fun v=>[(false,[.c (.int .u64 v)])]) fun _=>by kernel_rfl
noncomputable def s_SeqAdd:FF (Int×Int×Unit) (Int):=⟨fun(x0,x1,_)=>
  .val (s_l4Rest.f (x0,())) fun c1=>
  .val (s_l4Rest.f (x1,())) fun c2=>
  .val (s_l4Rest.f ((IntKind.wrap .i64 (c1+c2)),())) fun c3=>
  .ret c3⟩
noncomputable def s_SeqAdd_e:=ent1 st Tryz.func15 [s_l4Rest_e] (ks:=[.sc (.int .i64),.sc (.int .i64)]) s_SeqAdd (fun v=>[(false,[.c (.int .i64 v)])]) fun _=>by kernel_rfl
noncomputable def s_SameConn:FT (Conn×Conn×Unit) (Bool) (fun x=>sm_conn x.1∧sm_conn x.2.1) (fun _ _=>True):=⟨fun(x0,x1,_)=>
  .ite ((x0.tuple.ip==x1.tuple.ip)&&((x0.tuple.port==x1.tuple.port)&&((x0.tuple.my==x1.tuple.my)&&true))) (.ite (x0.state==x1.state) (.ite ((x0.s.una==x1.s.una)&&((x0.s.data==x1.s.data)&&((x0.s.sent==x1.s.sent)&&((x0.s.fin==x1.s.fin)&&((x0.s.finSent==x1.s.finSent)&&((x0.s.done==x1.s.done)&&true)))))) (.cal s_SameReceiver.c (x0.r,x1.r,()) fun c1=>
     .ite c1 (.ite (x0.window==x1.window) (.ite (x0.most==x1.most) (.ite ((x0.opts.mss==x1.opts.mss)&&((x0.opts.scale==x1.opts.scale)&&((x0.opts.sack==x1.opts.sack)&&((x0.opts.stamp==x1.opts.stamp)&&((x0.opts.val==x1.opts.val)&&((x0.opts.echo==x1.opts.echo)&&true)))))) (.ite (x0.timer==x1.timer) (.ret (x0.tries==x1.tries))<|
         .ret false)<|
        .ret false)<|
       .ret false)<|
      .ret false)<|
     .ret false)<|
    .ret false)<|
   .ret false)<|
  .ret false,
 fun(x0,x1,_) hp=>by
  refine Tr.I (fun _=>Tr.I (fun _=>Tr.I (fun _=>Tr.C ?_ fun _ _ _=>Tr.F (by kernel_rfl) trivial) fun _=>Tr.R trivial) fun _=>Tr.R trivial) fun _=>Tr.R trivial
  all_goals (grind)⟩
noncomputable def s_SameConn_e:=ent0 st Tryz.func40 [s_SameReceiver_e] (ks:=[.st .conn,.st .conn]) s_SameConn (fun v=>[(false,[.c (.bool v)])]) fun _=>by kernel_rfl
noncomputable def s_SameKeys:FT (Keys×Keys×Unit) (Bool) (fun x=>sm_keys x.1∧sm_keys x.2.1) (fun _ _=>True):=⟨fun(x0,x1,_)=>
  .ite (x0.epoch==x1.epoch) (.ite (x0.two==x1.two) (.cal s_SameMac.c (x0.now,x1.now,()) fun c1=>
    .ite c1 (.cal s_SameMac.c (x0.before,x1.before,()) fun c2=>
     .ret c2)<|
    .ret false)<|
   .ret false)<|
  .ret false,
 fun(x0,x1,_) hp=>by
  refine Tr.I (fun _=>Tr.I (fun _=>Tr.C ?_ fun _ _ _=>Tr.I (fun _=>Tr.C ?_ fun _ _ _=>Tr.R trivial) fun _=>Tr.R trivial) fun _=>Tr.R trivial) fun _=>Tr.R trivial
  all_goals (grind)⟩
noncomputable def s_SameKeys_e:=ent0 st Tryz.func41 [s_SameMac_e] (ks:=[.st .keys,.st .keys]) s_SameKeys (fun v=>[(false,[.c (.bool v)])]) fun _=>by kernel_rfl
noncomputable def s_SameTable_o:List (Ent1 Tryz.prog):=[s_SameConn_e]
def s_SameTable_L0_h:Sh:=⟨[(2,false,[.ptr 0 0]),(3,false,[.ptr 1 0]),(5,false,[.int .i64])],[.box [.st .tabl [.sl .arg,.sl .arg]],.box [.st .tabl [.sl .arg,.sl .arg]]]⟩
def s_SameTable_L1_h:Sh:=⟨[(2,false,[.ptr 0 0]),(3,false,[.ptr 1 0]),(6,false,[.int .i64])],[.box [.st .tabl [.sl .arg,.sl .arg]],.box [.st .tabl [.sl .arg,.sl .arg]]]⟩
noncomputable def s_SameTable_x:Fx:=⟨66,Tryz.f66,[(0,la ⟨[2,3,5],[],false,0⟩ ⟨[2,3,4],[],false,0⟩),(2,la ⟨[2,3,6],[],false,0⟩ ⟨[4],[],false,0⟩),(3000001,rA 0 22)],0⟩
noncomputable def s_SameTable_L0_T (v1 v2:Tabl)(v0:Int)(a:Unit):Tr (Stp (Unit) ((Unit))):=
 .grd ((decide (0≤v0))&&(decide (v0<(v1.conns.length:Int))))<|
 .grd ((decide (0≤v0))&&(decide (v0<(v2.conns.length:Int))))<|
 .cal s_SameConn.c ((v1.conns.getD v0.toNat (Ty.zero .conn)),(v2.conns.getD v0.toNat (Ty.zero .conn)),()) fun c2=>
 .ite (!c2) (.ret (.out ()))<|
 .ret (.next ())
noncomputable def s_SameTable_L0_d:s_SameTable_L0_h.V→LC s_SameTable_L0_h (Unit) ((Unit)) (((Unit))⊕(Int×Unit)):=fun(v0,v1,v2,_)=>⟨v0,(),fun v0 _=>(v0,v1,v2,()),fun v0 _=>(decide (v0<(v1.conns.length:Int))),s_SameTable_L0_T v1 v2,up,1,(Int.toNat ((v1.conns.length:Int)-v0)),.inl,fun i a=> .inr (i,a),fun _ k w=>Sum.elim (fun _=>k .ret (Sh.enc ⟨[(2,false,[.ptr 0 0]),(3,false,[.ptr 1 0]),(4,false,[.bool])],[.box [.st .tabl [.sl .arg,.sl .arg]],.box [.st .tabl [.sl .arg,.sl .arg]]]⟩ (false,v1,v2,()))) (fun _=>k (.exit 0) (Sh.enc ⟨[(2,false,[.ptr 0 0]),(3,false,[.ptr 1 0]),(4,false,[.undef])],[.box [.st .tabl [.sl .arg,.sl .arg]],.box [.st .tabl [.sl .arg,.sl .arg]]]⟩ (v1,v2,()))) w⟩
theorem s_SameTable_L0_s:LS Tryz.prog s_SameTable_x [0] (leC 0 s_SameTable_L0_h s_SameTable_L0_d):=loopC st (orcOf_ok s_SameTable_o) _ s_SameTable_L0_d [] trivial (by kernel_rfl) (fun _=>by kernel_rfl) fun _ _ _ _ _ _=>by kernel_rfl
theorem s_SameTable_L0_k {v0:Int}{v1 v2:Tabl}(h0:0≤v0)(h1:(v1.conns.length:Int)≤4611686018427387904)(h2:sm_tabl v1)(h3:sm_tabl v2)(h4:(v1.conns.length:Int)≤(v2.conns.length:Int)):(s_SameTable_L0_d (v0,v1,v2,())).U (v1.conns.length:Int) (fun _ _=>True) (fun _=>True):=
 LC.okU (i:=v0) (a:=()) (fun _ _=>rfl) (fun _=>rfl) rfl h0 h1 trivial fun v0 _ hj hk hv=>by
  refine Tr.G2 ?_ fun _=>Tr.G2 ?_ fun _=>Tr.C ?_ fun _ _ _=>Tr.Z (by kernel_rfl)
  all_goals (grind)
noncomputable def s_SameTable_L1_T (v1 v2:Tabl)(v0:Int)(a:Unit):Tr (Stp (Unit) ((Unit))):=
 .grd ((decide (0≤v0))&&(decide (v0<(v1.waiting.length:Int))))<|
 .grd ((decide (0≤v0))&&(decide (v0<(v2.waiting.length:Int))))<|
 .ite (!(((v1.waiting.getD v0.toNat (Ty.zero .tupl)).ip==(v2.waiting.getD v0.toNat (Ty.zero .tupl)).ip)&&(((v1.waiting.getD v0.toNat (Ty.zero .tupl)).port==(v2.waiting.getD v0.toNat (Ty.zero .tupl)).port)&&(((v1.waiting.getD v0.toNat (Ty.zero .tupl)).my==(v2.waiting.getD v0.toNat (Ty.zero .tupl)).my)&&true)))) (.ret (.out ()))<|
 .ret (.next ())
noncomputable def s_SameTable_L1_d:s_SameTable_L1_h.V→LC s_SameTable_L1_h (Unit) ((Unit)) (((Unit))⊕(Int×Unit)):=fun(v0,v1,v2,_)=>⟨v0,(),fun v0 _=>(v0,v1,v2,()),fun v0 _=>(decide (v0<(v1.waiting.length:Int))),s_SameTable_L1_T v1 v2,up,1,(Int.toNat ((v1.waiting.length:Int)-v0)),.inl,fun i a=> .inr (i,a),fun _ k w=>Sum.elim (fun _=>k .ret (Sh.enc ⟨[(4,false,[.bool])],[]⟩ (false,()))) (fun _=>k (.exit 2) (Sh.enc ⟨[(4,false,[.undef])],[]⟩ ())) w⟩
theorem s_SameTable_L1_s:LS Tryz.prog s_SameTable_x [1] (leC 2 s_SameTable_L1_h s_SameTable_L1_d):=loopC st (orcOf_ok s_SameTable_o) _ s_SameTable_L1_d [] trivial (by kernel_rfl) (fun _=>by kernel_rfl) fun _ _ _ _ _ _=>by kernel_rfl
theorem s_SameTable_L1_k {v0:Int}{v1 v2:Tabl}(h0:0≤v0)(h1:(v1.waiting.length:Int)≤4611686018427387904)(h2:(v1.waiting.length:Int)≤(v2.waiting.length:Int)):(s_SameTable_L1_d (v0,v1,v2,())).U (v1.waiting.length:Int) (fun _ _=>True) (fun _=>True):=
 LC.okU (i:=v0) (a:=()) (fun _ _=>rfl) (fun _=>rfl) rfl h0 h1 trivial fun v0 _ hj hk hv=>by
  refine Tr.G2 ?_ fun _=>Tr.G2 ?_ fun _=>Tr.Z (by kernel_rfl)
  all_goals (grind)
noncomputable def s_SameTable:FT (Tabl×Tabl×Unit) (Bool) (fun x=>sm_tabl x.1∧sm_tabl x.2.1) (fun _ _=>True):=⟨fun(x0,x1,_)=>
  .bnd (β:=Bool×Unit) (.ite ((x0.conns.length:Int) != (x1.conns.length:Int)) (.ret (true,()))<|
   .ret (((x0.waiting.length:Int) != (x1.waiting.length:Int)),())) fun(u1a0,_)=>
  .ite u1a0 (.ret false)<|
  .lp (s_SameTable_L0_d (0,x0,x1,())).lp fun w3=> .sum w3 (fun _=>
  .ret false)<|
  fun _=>
  .lp (s_SameTable_L1_d (0,x0,x1,())).lp fun w4=> .sum w4 (fun _=>
  .ret false)<|
  fun _=>
  .ret true,
 fun(x0,x1,_) hp=>by
  refine Tr.B (Q':=fun _=>True) (Tr.F (by kernel_rfl) trivial) (fun(u1a0,_) _ _=>Tr.I (fun _=>Tr.R trivial) fun _=>Tr.L (s_SameTable_L0_k ?_ ?_ ?_ ?_ ?_) (fun _ _=>Tr.Sr (Tr.L (s_SameTable_L1_k ?_ ?_ ?_) (fun _ _=>Tr.Sr (Tr.R trivial)) (fun _ _=>Tr.Sl (Tr.R trivial)))) (fun _ _=>Tr.Sl (Tr.R trivial)))
  all_goals ((try simp only[s_SameTable_L0_d,s_SameTable_L1_d,LC.lp,LC.ct,Ct.lp,Tr.nice,letK]at*)<;>grind)⟩
noncomputable def s_SameTable_e:=entT st s_SameTable_x s_SameTable_o [(leC 0 s_SameTable_L0_h s_SameTable_L0_d),(leC 2 s_SameTable_L1_h s_SameTable_L1_d)] (ks:=[.st .tabl,.st .tabl]) s_SameTable (fun v=>[(false,[.c (.bool v)])]) Tryz.func66 ⟨s_SameTable_L0_s,s_SameTable_L1_s,trivial⟩ fun _=>by kernel_rfl
noncomputable def s_SecretOf_o:List (Ent1 Tryz.prog):=[s_l11Copy_e]
noncomputable def s_SecretOf_x:Fx:=⟨70,Tryz.f70,[(3000003,rA 0 14)],0⟩
noncomputable def s_SecretOf:FT (Keys×Int×Unit) (Mac×Bool) (fun x=>sm_keys x.1) (fun x v=>sm_mac v.1):=⟨fun(x0,x1,_)=>
  .ite (x1==x0.epoch) (.cal s_l11Copy.c (x0.now,()) fun c1=>
   .ret (c1,true))<|
  .bnd (β:=Bool×Unit) (.ite x0.two (.ret ((x1==(IntKind.wrap .i64 (x0.epoch-1))),()))<|
   .ret (false,())) fun(u2a0,_)=>
  .ite u2a0 (.cal s_l11Copy.c (x0.before,()) fun c3=>
   .ret (c3,true))<|
  .ret ((⟨false,0,0,[]⟩:Mac),false),
 fun(x0,x1,_) hp=>by
  refine Tr.I (fun _=>Tr.C ?_ fun _ _ _=>Tr.R ?_) fun _=>Tr.B (Q':=fun _=>True) (Tr.F (by kernel_rfl) trivial) (fun(u2a0,_) _ _=>Tr.I (fun _=>Tr.C ?_ fun _ _ _=>Tr.R ?_) fun _=>Tr.R ?_)
  all_goals ((try simp only[Tr.nice,letK]at*)<;>grind)⟩
noncomputable def s_SecretOf_e:=entT st s_SecretOf_x s_SecretOf_o [] (ks:=[.st .keys,.sc (.int .i64)]) s_SecretOf (fun v=>[(true,q_mac (.o true) v.1),(false,[.c (.bool v.2)])]) Tryz.func70 trivial fun _=>by kernel_rfl
noncomputable def i_WordOk:FT (Int×Int×Unit) (Bool) (fun _=>True) (fun x v=>(x.2.1=32→(v=true↔0≤x.1∧x.1≤4294967295))∧(x.2.1=16→(v=true↔0≤x.1∧x.1≤65535))∧(x.2.1=48→(v=true↔0≤x.1∧x.1≤281474976710655))∧(x.2.1=8→(v=true↔0≤x.1∧x.1≤255))∧(x.2.1=6→(v=true↔0≤x.1∧x.1≤63))):=⟨fun(x0,x1,_)=>
  .val (i_within.f (x1,1,62,())) fun c1=>
  .ite c1 (.grd (decide (0≤x1))<|
   .val (IntKind.wrap .i64 ((IntKind.wrap .i64 (1*2 ^ (min x1.toNat 64)))-1)) fun e2=>
   .val (i_within.f (x0,0,e2,())) fun c3=>
   .ret c3)<|
  .ret false,
 fun(x0,x1,_) hp=>by
  refine Tr.V fun _ _=>Tr.I (fun _=>Tr.G1 ?_ fun _=>Tr.V fun _ _=>Tr.V fun _ _=>Tr.R ?_) fun _=>Tr.R ?_
  all_goals (grind)⟩
@[grind=] theorem i_WordOk_32 (x:Int):i_WordOk.f (x,32,())=(decide (0≤x)&&decide (x≤4294967295)):=by
 have h:=i_WordOk.c.h (x,32,()) trivial
 rw[Bool.eq_iff_iff]
 grind
@[grind=] theorem i_WordOk_16 (x:Int):i_WordOk.f (x,16,())=(decide (0≤x)&&decide (x≤65535)):=by
 have h:=i_WordOk.c.h (x,16,()) trivial
 rw[Bool.eq_iff_iff]
 grind
@[grind=] theorem i_WordOk_48 (x:Int):i_WordOk.f (x,48,())=(decide (0≤x)&&decide (x≤281474976710655)):=by
 have h:=i_WordOk.c.h (x,48,()) trivial
 rw[Bool.eq_iff_iff]
 grind
@[grind=] theorem i_WordOk_8 (x:Int):i_WordOk.f (x,8,())=(decide (0≤x)&&decide (x≤255)):=by
 have h:=i_WordOk.c.h (x,8,()) trivial
 rw[Bool.eq_iff_iff]
 grind
@[grind=] theorem i_WordOk_6 (x:Int):i_WordOk.f (x,6,())=(decide (0≤x)&&decide (x≤63)):=by
 have h:=i_WordOk.c.h (x,6,()) trivial
 rw[Bool.eq_iff_iff]
 grind
noncomputable def i_WordOk_e:=ent0 st Tryz.func72 [i_within_e] (ks:=[.sc (.int .i64),.sc (.int .i64)]) i_WordOk (fun v=>[(false,[.c (.bool v)])]) fun _=>by kernel_rfl
noncomputable def s_WordOk:FT (Int×Int×Unit) (Bool) (fun _=>True) (fun x v=>(x.2.1=32→(v=true↔0≤x.1∧x.1≤4294967295))∧(x.2.1=16→(v=true↔0≤x.1∧x.1≤65535))∧(x.2.1=48→(v=true↔0≤x.1∧x.1≤281474976710655))∧(x.2.1=8→(v=true↔0≤x.1∧x.1≤255))∧(x.2.1=6→(v=true↔0≤x.1∧x.1≤63))):=⟨fun(x0,x1,_)=>
  .val (s_l1In.f (x1,1,62,())) fun c1=>
  .ite c1 (.grd (decide (0≤(IntKind.wrap .u64 x1)))<|
   .val (IntKind.wrap .i64 ((IntKind.wrap .i64 (1*2 ^ (min (IntKind.wrap .u64 x1).toNat 64)))-1)) fun e2=>
   .val (s_l1In.f (x0,0,e2,())) fun c3=>
   .ret c3)<|
  .ret false,
 fun(x0,x1,_) hp=>by
  refine Tr.V fun _ _=>Tr.I (fun _=>Tr.G1 ?_ fun _=>Tr.V fun _ _=>Tr.V fun _ _=>Tr.R ?_) fun _=>Tr.R ?_
  all_goals (grind [wrapU_id])⟩
@[grind=] theorem s_WordOk_32 (x:Int):s_WordOk.f (x,32,())=(decide (0≤x)&&decide (x≤4294967295)):=by
 have h:=s_WordOk.c.h (x,32,()) trivial
 rw[Bool.eq_iff_iff]
 grind
@[grind=] theorem s_WordOk_16 (x:Int):s_WordOk.f (x,16,())=(decide (0≤x)&&decide (x≤65535)):=by
 have h:=s_WordOk.c.h (x,16,()) trivial
 rw[Bool.eq_iff_iff]
 grind
@[grind=] theorem s_WordOk_48 (x:Int):s_WordOk.f (x,48,())=(decide (0≤x)&&decide (x≤281474976710655)):=by
 have h:=s_WordOk.c.h (x,48,()) trivial
 rw[Bool.eq_iff_iff]
 grind
@[grind=] theorem s_WordOk_8 (x:Int):s_WordOk.f (x,8,())=(decide (0≤x)&&decide (x≤255)):=by
 have h:=s_WordOk.c.h (x,8,()) trivial
 rw[Bool.eq_iff_iff]
 grind
@[grind=] theorem s_WordOk_6 (x:Int):s_WordOk.f (x,6,())=(decide (0≤x)&&decide (x≤63)):=by
 have h:=s_WordOk.c.h (x,6,()) trivial
 rw[Bool.eq_iff_iff]
 grind
noncomputable def s_WordOk_e:=ent0 st Tryz.func87 [s_l1In_e] (ks:=[.sc (.int .i64),.sc (.int .i64)]) s_WordOk (fun v=>[(false,[.c (.bool v)])]) fun _=>by kernel_rfl
noncomputable def s_OptionsOk_o:List (Ent1 Tryz.prog):=[s_WordOk_e,s_l1In_e]
noncomputable def s_OptionsOk_x:Fx:=⟨95,Tryz.f95,[(3000001,rA 0 15)],0⟩
noncomputable def s_OptionsOk:FT (Opti×Unit) (Bool) (fun _=>True) (fun _ _=>True):=⟨fun(x0,_)=>
  .bnd (β:=Bool×Unit) (.ite (!x0.stamp) (.ite (x0.val != 0) (.ret (true,()))<|
    .ret ((x0.echo != 0),()))<|
   .ret (false,())) fun(u1a0,_)=>
  .ite u1a0 (.ret false)<|
  .cal s_WordOk.c (x0.mss,16,()) fun c2=>
  .ite c2 (.val (s_l1In.f (x0.scale,(-1),14,())) fun c3=>
   .ite c3 (.cal s_WordOk.c (x0.val,32,()) fun c4=>
    .ite c4 (.cal s_WordOk.c (x0.echo,32,()) fun c5=>
     .ret c5)<|
    .ret false)<|
   .ret false)<|
  .ret false,
 fun(x0,_) hp=>by
  refine Tr.B (Q':=fun _=>True) (Tr.F (by kernel_rfl) trivial) (fun(u1a0,_) _ _=>Tr.I (fun _=>Tr.R trivial) fun _=>Tr.C trivial fun _ _ _=>Tr.I (fun _=>Tr.V fun _ _=>Tr.I (fun _=>Tr.C trivial fun _ _ _=>Tr.I (fun _=>Tr.C trivial fun _ _ _=>Tr.R trivial) fun _=>Tr.R trivial) fun _=>Tr.R trivial) fun _=>Tr.R trivial)⟩
noncomputable def s_OptionsOk_e:=entT st s_OptionsOk_x s_OptionsOk_o [] (ks:=[.st .opti]) s_OptionsOk (fun v=>[(false,[.c (.bool v)])]) Tryz.func95 trivial fun _=>by kernel_rfl
noncomputable def s_WindowOf:FT (Recv×Unit) (Int) (fun x=>sm_recv x.1) (fun x v=>0≤v∧v≤32∧(x.1.data.length≤32→v=winR x.1)):=⟨fun(x0,_)=>
  .ite x0.done (.ret 0)<|
  .val (s_l1Max.f (0,(IntKind.wrap .i64 (32-(x0.data.length:Int))),())) fun c1=>
  .ret c1,
 fun(x0,_) hp=>by
  refine Tr.I (fun _=>Tr.R ?_) fun _=>Tr.V fun _ _=>Tr.R ?_
  all_goals (grind)⟩
noncomputable def s_WindowOf_e:=ent0 st Tryz.func113 [s_l1Max_e] (ks:=[.st .recv]) s_WindowOf (fun v=>[(false,[.c (.int .i64 v)])]) fun _=>by kernel_rfl
noncomputable def s_AckFits:FT (Conn×Int×Unit) (Bool) (fun x=>sm_conn x.1) (fun _ _=>True):=⟨fun(x0,x1,_)=>
  .val (s_SeqDiff.f (x1,x0.s.una,())) fun c1=>
  .cal s_l17Flown.c (x0.s,()) fun c2=>
  .ite (decide (c1≤c2)) (.ite (decide (0≤c1)) (.ret true)<|
   .ite (decide (2147483648≤x0.most)) (.ret true)<|
   .ite (decide (0<x0.most)) (.ret (decide ((IntKind.wrap .i64 (0-x0.most))≤c1)))<|
   .ret false)<|
  .ret false,
 fun(x0,x1,_) hp=>by
  refine Tr.V fun _ _=>Tr.C ?_ fun _ _ _=>Tr.F (by kernel_rfl) trivial
  all_goals (grind)⟩
noncomputable def s_AckFits_e:=ent0 st Tryz.func115 [s_SeqDiff_e,s_l17Flown_e] (ks:=[.st .conn,.sc (.int .i64)]) s_AckFits (fun v=>[(false,[.c (.bool v)])]) fun _=>by kernel_rfl
noncomputable def s_AnswerOptions_o:List (Ent1 Tryz.prog):=[s_l1In_e,s_StampOf_e]
def s_AnswerOptions_J13_a:An:=⟨⟨[],[],false,0⟩,⟨[1,2,4,5],[],false,0⟩,⟨[],[]⟩,[(.normal,⟨[(1,false,[.int .i64]),(2,false,[.ptr 0 0]),(4,false,[.ptr 1 0]),(5,false,[.ptr 2 0])],[.box [.st .opti []],.box [.st .opti []],.box [.st .opti []]]⟩)]⟩
noncomputable def s_AnswerOptions_x:Fx:=⟨125,Tryz.f125,[(1000013,s_AnswerOptions_J13_a)],0⟩
noncomputable def s_AnswerOptions:FF (Opti×Int×Unit) (Opti):=⟨fun(x0,x1,_)=>
  .ite (!x0.stamp) (.ret (⟨1460,(-1),false,false,0,0⟩:Opti))<|
  .val (s_l1In.f (x0.scale,0,14,())) fun c1=>
  .bnd (β:=Int×Opti×Opti×Opti×Unit) (.ite c1 (.ret (x1,x0,(⟨0,0,false,false,0,0⟩:Opti),(⟨1460,0,false,false,0,0⟩:Opti),()))<|
   .ret (x1,x0,(⟨0,0,false,false,0,0⟩:Opti),(⟨1460,(-1),false,false,0,0⟩:Opti),())) fun(u2a0,u2a1,_,u2a3,_)=>
  .val (s_StampOf.f (u2a0,u2a1.scale,u2a1.sack,())) fun c3=>
  .ret (⟨u2a3.mss,u2a3.scale,u2a1.sack,true,c3,u2a1.val⟩:Opti)⟩
noncomputable def s_AnswerOptions_e:=ent1L st s_AnswerOptions_x s_AnswerOptions_o [] (ks:=[.st .opti,.sc (.int .i64)]) s_AnswerOptions (fun v=>[(true,q_opti v)]) Tryz.func125 trivial fun _=>by kernel_rfl
noncomputable def i_OptionsOk_o:List (Ent1 Tryz.prog):=[i_WordOk_e,i_within_e]
noncomputable def i_OptionsOk_x:Fx:=⟨133,Tryz.f133,[(3000001,rA 0 15)],0⟩
noncomputable def i_OptionsOk:FT (Opti×Unit) (Bool) (fun _=>True) (fun _ _=>True):=⟨fun(x0,_)=>
  .bnd (β:=Bool×Unit) (.ite (!x0.stamp) (.ite (x0.val != 0) (.ret (true,()))<|
    .ret ((x0.echo != 0),()))<|
   .ret (false,())) fun(u1a0,_)=>
  .ite u1a0 (.ret false)<|
  .cal i_WordOk.c (x0.mss,16,()) fun c2=>
  .ite c2 (.val (i_within.f (x0.scale,(-1),14,())) fun c3=>
   .ite c3 (.cal i_WordOk.c (x0.val,32,()) fun c4=>
    .ite c4 (.cal i_WordOk.c (x0.echo,32,()) fun c5=>
     .ret c5)<|
    .ret false)<|
   .ret false)<|
  .ret false,
 fun(x0,_) hp=>by
  refine Tr.B (Q':=fun _=>True) (Tr.F (by kernel_rfl) trivial) (fun(u1a0,_) _ _=>Tr.I (fun _=>Tr.R trivial) fun _=>Tr.C trivial fun _ _ _=>Tr.I (fun _=>Tr.V fun _ _=>Tr.I (fun _=>Tr.C trivial fun _ _ _=>Tr.I (fun _=>Tr.C trivial fun _ _ _=>Tr.R trivial) fun _=>Tr.R trivial) fun _=>Tr.R trivial) fun _=>Tr.R trivial)⟩
noncomputable def i_OptionsOk_e:=entT st i_OptionsOk_x i_OptionsOk_o [] (ks:=[.st .opti]) i_OptionsOk (fun v=>[(false,[.c (.bool v)])]) Tryz.func133 trivial fun _=>by kernel_rfl
noncomputable def s_TupleOk:FT (Tupl×Unit) (Bool) (fun _=>True) (fun _ _=>True):=⟨fun(x0,_)=>
  .cal s_WordOk.c (x0.ip,32,()) fun c1=>
  .ite c1 (.cal s_WordOk.c (x0.port,16,()) fun c2=>
   .ite c2 (.cal s_WordOk.c (x0.my,16,()) fun c3=>
    .ret c3)<|
   .ret false)<|
  .ret false,
 fun(x0,_) hp=>by
  refine Tr.C trivial fun _ _ _=>Tr.I (fun _=>Tr.C trivial fun _ _ _=>Tr.I (fun _=>Tr.C trivial fun _ _ _=>Tr.R trivial) fun _=>Tr.R trivial) fun _=>Tr.R trivial⟩
noncomputable def s_TupleOk_e:=ent0 st Tryz.func150 [s_WordOk_e] (ks:=[.st .tupl]) s_TupleOk (fun v=>[(false,[.c (.bool v)])]) fun _=>by kernel_rfl
noncomputable def s_l13Copy:FT (Keys×Unit) (Keys) (fun x=>sm_keys x.1) (fun x v=>sm_keys v∧v=x.1):=⟨fun(x0,_)=>
  .cal s_l11Copy.c (x0.now,()) fun c1=>
  .cal s_l11Copy.c (x0.before,()) fun c2=>
  .ret (⟨x0.epoch,c1,c2,x0.two⟩:Keys),
 fun(x0,_) hp=>by
  refine Tr.C ?_ fun c1 hc1 qc1=>Tr.C ?_ fun c2 hc2 qc2=>Tr.R ?_
  all_goals ((first|grind|(refine⟨by grind, ?_⟩;first|(simp only[List.nil_append];done)|(subst_vars;rfl)|simp_all)))⟩
noncomputable def s_l13Copy_e:=ent0 st Tryz.func151 [s_l11Copy_e] (ks:=[.st .keys]) s_l13Copy (fun v=>[(true,q_keys (.o true) (.o true) v)]) fun _=>by kernel_rfl
noncomputable def s_ResetFor:FT (Segm×Unit) (Segm×Bool) (fun x=>sm_segm x.1) (fun x v=>sm_segm v.1):=⟨fun(x0,_)=>
  .val (s_Has.f (x0,4,())) fun c1=>
  .ite c1 (.ret ((⟨0,0,0,0,0,0,⟨0,0,false,false,0,0⟩,[]⟩:Segm),false))<|
  .val (s_NoOptions.f (())) fun c2=>
  .val (s_Has.f (x0,16,())) fun c3=>
  .ite c3 (.ret ((⟨x0.to,x0.from_,x0.ack,0,4,0,c2,[]⟩:Segm),true))<|
  .cal s_SegmentLen.c (x0,()) fun c4=>
  .val (s_SeqAdd.f (x0.seq,c4,())) fun c5=>
  .ret ((⟨x0.to,x0.from_,0,c5,20,0,c2,[]⟩:Segm),true),
 fun(x0,_) hp=>by
  refine Tr.V fun _ _=>Tr.I (fun _=>Tr.R ?_) fun _=>Tr.V fun _ _=>Tr.V fun _ _=>Tr.I (fun _=>Tr.R ?_) fun _=>Tr.C ?_ fun _ _ _=>Tr.V fun _ _=>Tr.R ?_
  all_goals (grind)⟩
noncomputable def s_ResetFor_e:=ent0 st Tryz.func153 [s_Has_e,s_NoOptions_e,s_SegmentLen_e,s_SeqAdd_e] (ks:=[.st .segm]) s_ResetFor (fun v=>[(true,q_segm v.1),(false,[.c (.bool v.2)])]) fun _=>by kernel_rfl
noncomputable def s_StampIn_o:List (Ent1 Tryz.prog):=[s_WordOk_e]
noncomputable def s_StampIn_x:Fx:=⟨160,Tryz.f160,[(3000001,rA 0 13)],0⟩
noncomputable def s_StampIn:FT (Int×Unit) (Int×Bool×Bool) (fun _=>True) (fun _ _=>True):=⟨fun(x0,_)=>
  .bnd (β:=Bool×Unit) (.cal s_WordOk.c (x0,32,()) fun c1=>
   .ite (!c1) (.ret (true,()))<|
   .ret (((bits .and .i64 x0 32)==0),())) fun(u2a0,_)=>
  .ite u2a0 (.ret ((-1),false,false))<|
  .ite ((x0.tmod 16)==15) (.ret ((-1),((bits .and .i64 x0 16) != 0),true))<|
  .ret ((x0.tmod 16),((bits .and .i64 x0 16) != 0),true),
 fun(x0,_) hp=>by
  refine Tr.B (Q':=fun _=>True) (Tr.C trivial fun _ _ _=>Tr.F (by kernel_rfl) trivial) (fun(u2a0,_) _ _=>Tr.F (by kernel_rfl) trivial)⟩
noncomputable def s_StampIn_e:=entT st s_StampIn_x s_StampIn_o [] (ks:=[.sc (.int .i64)]) s_StampIn (fun v=>[(false,[.c (.int .i64 v.1)]),(false,[.c (.bool v.2.1)]),(false,[.c (.bool v.2.2)])]) Tryz.func160 trivial fun _=>by kernel_rfl
noncomputable def i_SameMac:FT (Mac×Mac×Unit) (Bool) (fun x=>sm_mac x.1∧sm_mac x.2.1) (fun _ _=>True):=⟨fun(x0,x1,_)=>
  .ite (x0.use==x1.use) (.ite (x0.k==x1.k) (.ite (x0.l==x1.l) (.cal g_Equal_MacRow.c (x0.rows,x1.rows,()) fun c1=>
     .ret c1)<|
    .ret false)<|
   .ret false)<|
  .ret false,
 fun(x0,x1,_) hp=>by
  refine Tr.I (fun _=>Tr.I (fun _=>Tr.I (fun _=>Tr.C ?_ fun _ _ _=>Tr.R trivial) fun _=>Tr.R trivial) fun _=>Tr.R trivial) fun _=>Tr.R trivial
  all_goals (grind)⟩
noncomputable def i_SameMac_e:=ent0 st Tryz.func166 [g_Equal_MacRow_e] (ks:=[.st .mac,.st .mac]) i_SameMac (fun v=>[(false,[.c (.bool v)])]) fun _=>by kernel_rfl
noncomputable def i_cloneLink:FT (Link×Unit) (Link) (fun x=>sm_link x.1) (fun x v=>sm_link v):=⟨fun(x0,_)=>
  .cal g_Clone_Entry.c (x0.cache,()) fun c1=>
  .ret ({x0 with cache:=c1}:Link),
 fun(x0,_) hp=>by
  refine Tr.C ?_ fun _ _ _=>Tr.R ?_
  all_goals (grind)⟩
noncomputable def i_cloneLink_e:=ent0 st Tryz.func179 [g_Clone_Entry_e] (ks:=[.st .link]) i_cloneLink (fun v=>[(true,q_link (.o true) v)]) fun _=>by kernel_rfl
noncomputable def s_l19Copy:FT (Conn×Unit) (Conn) (fun x=>sm_conn x.1) (fun x v=>sm_conn v∧v=x.1):=⟨fun(x0,_)=>
  .cal s_l18Copy.c (x0.r,()) fun c1=>
  .ret ({x0 with r.next:=c1.next,r.data:=c1.data,r.held:=c1.held,r.fin:=c1.fin,r.done:=c1.done}:Conn),
 fun(x0,_) hp=>by
  refine Tr.C ?_ fun c1 hc1 qc1=>Tr.R ?_
  all_goals ((first|grind|(refine⟨by grind, ?_⟩;first|(simp only[List.nil_append];done)|(subst_vars;rfl)|simp_all)))⟩
noncomputable def s_l19Copy_e:=ent0 st Tryz.func186 [s_l18Copy_e] (ks:=[.st .conn]) s_l19Copy (fun v=>[(true,q_conn (.o true) v)]) fun _=>by kernel_rfl
noncomputable def s_Swept_o:List (Ent1 Tryz.prog):=[s_l25Waits_e,s_l19Copy_e,s_FindConn_e]
def s_Swept_L0_h:Sh:=⟨[(1,false,[.ptr 0 0]),(2,false,[.ptr 1 0]),(3,false,[.ptr 2 0]),(4,false,[.int .i64])],[.box [.st .tabl [.sl .arg,.sl .arg]],.box [.st .tabl [.nil .conn,.nil .tupl]],.box [.st .tabl [.own 3,.nil .tupl]],.of false true]⟩
def s_Swept_L1_h:Sh:=⟨[(1,false,[.ptr 0 0]),(2,false,[.ptr 1 0]),(3,false,[.ptr 2 0]),(5,false,[.int .i64])],[.box [.st .tabl [.sl .arg,.sl .arg]],.box [.st .tabl [.nil .conn,.nil .tupl]],.box [.st .tabl [.own 3,.own 4]],.of false true,.of false true]⟩
noncomputable def s_Swept_x:Fx:=⟨194,Tryz.f194,[(0,la ⟨[1,2,3,4],[.box 3 0 .conn],false,0⟩ ⟨[1,2,3],[],false,0⟩),(2,la ⟨[1,2,3,5],[.box 3 1 .tupl],false,0⟩ ⟨[2,3],[],false,0⟩),(3000005,rA 0 31)],0⟩
noncomputable def s_Swept_L0_T (v1:Tabl)(v0:Int)(a:Tabl×Tabl):Tr (Stp (Tabl×Tabl) (Empty)):=
 .bnd (β:=Bool×Unit) (.grd ((decide (0≤v0))&&(decide (v0<(v1.conns.length:Int))))<|
  .ite ((v1.conns.getD v0.toNat (Ty.zero .conn)).state != 8) (.ret (true,()))<|
  .grd ((decide (0≤v0))&&(decide (v0<(v1.conns.length:Int))))<|
  .cal s_l25Waits.c (v1.waiting,(v1.conns.getD v0.toNat (Ty.zero .conn)).tuple,()) fun c4=>
  .ret (c4,())) fun(u5a0,_)=>
 .ite u5a0 (.grd ((decide (0≤v0))&&(decide (v0<(v1.conns.length:Int))))<|
  .cal s_l19Copy.c ((v1.conns.getD v0.toNat (Ty.zero .conn)),()) fun c6=>
  .grd (Nat.ble ((2*(a.2.conns.length+1)+1024)*208) maxSl)<|
  .ret (.next ((⟨[],[]⟩:Tabl),(⟨(a.2.conns++[c6]),[]⟩:Tabl))))<|
 .ret (.next ((⟨[],[]⟩:Tabl),(⟨a.2.conns,[]⟩:Tabl)))
noncomputable def s_Swept_L0_d:s_Swept_L0_h.V→LC s_Swept_L0_h (Tabl×Tabl) (Empty) (Int×(Tabl×Tabl)):=fun(v0,v1,v2,v3,_)=>⟨v0,(v2,v3),fun v0 a=>(v0,v1,a.1,a.2,()),fun v0 _=>(decide (v0<(v1.conns.length:Int))),s_Swept_L0_T v1,up,1,(Int.toNat ((v1.conns.length:Int)-v0)),(fun p=>Empty.elim p),fun i a=>(i,a),fun _ k x=>k (.exit 0) (Sh.enc ⟨[(1,false,[.ptr 0 0]),(2,false,[.ptr 1 0]),(3,false,[.ptr 2 0])],[.box [.st .tabl [.sl .arg,.sl .arg]],.box [.st .tabl [.nil .conn,.nil .tupl]],.box [.st .tabl [.own 3,.nil .tupl]],.of false true]⟩ (v1,(⟨[],[]⟩:Tabl),(⟨x.2.2.conns,[]⟩:Tabl),()))⟩
theorem s_Swept_L0_s:LS Tryz.prog s_Swept_x [0] (leC 0 s_Swept_L0_h s_Swept_L0_d):=loopC st (orcOf_ok s_Swept_o) _ s_Swept_L0_d [] trivial (by kernel_rfl) (fun _=>by kernel_rfl) fun _ _ _ _ _ _=>by kernel_rfl
theorem s_Swept_L0_k {v0:Int}{v1 v2 v3:Tabl}(h0:0≤v0)(h1:(v1.conns.length:Int)≤4611686018427387904)(h2:sm_tabl v1)(h3:sm_tabl v2∧(v3.conns.length:Int)≤v0∧smE sm_conn v3.conns∧sS v3.waiting):(s_Swept_L0_d (v0,v1,v2,v3,())).U (v1.conns.length:Int) (fun v0 a=>sm_tabl a.1∧(a.2.conns.length:Int)≤v0∧smE sm_conn a.2.conns∧sS a.2.waiting) (fun _=>True):=
 LC.okU (i:=v0) (a:=(v2,v3)) (fun _ _=>rfl) (fun _=>rfl) rfl h0 h1 h3 fun v0 (v2,v3) hj hk hv=>by
  refine Tr.B (Q':=fun _=>True) (Tr.G2 ?_ fun _=>Tr.I (fun _=>Tr.R trivial) fun _=>Tr.G2 ?_ fun _=>Tr.C ?_ fun _ _ _=>Tr.R trivial) (fun(u5a0,_) _ _=>Tr.I (fun _=>Tr.G2 ?_ fun _=>Tr.C ?_ fun _ _ _=>Tr.Gb ?_ fun _=>Tr.Rn ?_) fun _=>Tr.Rn ?_)
  all_goals ((try simp only[Tr.nice,letK]at*)<;>grind)
noncomputable def s_Swept_L1_T (v1:Tabl)(v0:Int)(a:Tabl×Tabl):Tr (Stp (Tabl×Tabl) (Empty)):=
 .grd ((decide (0≤v0))&&(decide (v0<(v1.waiting.length:Int))))<|
 .cal s_FindConn.c (v1,(v1.waiting.getD v0.toNat (Ty.zero .tupl)),()) fun c9=>
 .ite (decide (0≤c9)) (.grd ((decide (0≤v0))&&(decide (v0<(v1.waiting.length:Int))))<|
  .grd (Nat.ble ((2*(a.2.waiting.length+1)+1024)*24) maxSl)<|
  .ret (.next ((⟨[],[]⟩:Tabl),(⟨a.2.conns,(a.2.waiting++[(v1.waiting.getD v0.toNat (Ty.zero .tupl))])⟩:Tabl))))<|
 .ret (.next ((⟨[],[]⟩:Tabl),a.2))
noncomputable def s_Swept_L1_d:s_Swept_L1_h.V→LC s_Swept_L1_h (Tabl×Tabl) (Empty) (Int×(Tabl×Tabl)):=fun(v0,v1,v2,v3,_)=>⟨v0,(v2,v3),fun v0 a=>(v0,v1,a.1,a.2,()),fun v0 _=>(decide (v0<(v1.waiting.length:Int))),s_Swept_L1_T v1,up,1,(Int.toNat ((v1.waiting.length:Int)-v0)),(fun p=>Empty.elim p),fun i a=>(i,a),fun _ k x=>k (.exit 2) (Sh.enc ⟨[(2,false,[.ptr 0 0]),(3,false,[.ptr 1 0])],[.box [.st .tabl [.nil .conn,.nil .tupl]],.box [.st .tabl [.own 2,.own 3]],.of false true,.of false true]⟩ ((⟨[],[]⟩:Tabl),x.2.2,()))⟩
theorem s_Swept_L1_s:LS Tryz.prog s_Swept_x [1] (leC 2 s_Swept_L1_h s_Swept_L1_d):=loopC st (orcOf_ok s_Swept_o) _ s_Swept_L1_d [] trivial (by kernel_rfl) (fun _=>by kernel_rfl) fun _ _ _ _ _ _=>by kernel_rfl
theorem s_Swept_L1_k {v0:Int}{v1 v2 v3:Tabl}(h0:0≤v0)(h1:(v1.waiting.length:Int)≤4611686018427387904)(h2:sm_tabl v1)(h3:sL sm_conn v3.conns)(h4:sm_tabl v2∧v3.conns.length=v3.conns.length∧smE sm_conn v3.conns∧(v3.waiting.length:Int)≤v0):(s_Swept_L1_d (v0,v1,v2,v3,())).U (v1.waiting.length:Int) (fun v0 a=>sm_tabl a.1∧a.2.conns.length=v3.conns.length∧smE sm_conn a.2.conns∧(a.2.waiting.length:Int)≤v0) (fun _=>True):=
 LC.okU (i:=v0) (a:=(v2,v3)) (fun _ _=>rfl) (fun _=>rfl) rfl h0 h1 h4 fun v0 (v2,v3) hj hk hv=>by
  refine Tr.G2 ?_ fun _=>Tr.C ?_ fun _ _ _=>Tr.I (fun _=>Tr.G2 ?_ fun _=>Tr.Gb ?_ fun _=>Tr.Rn ?_) fun _=>Tr.Rn ?_
  all_goals (grind)
noncomputable def s_Swept:FT (Tabl×Unit) (Tabl) (fun x=>sm_tabl x.1) (fun x v=>sm_tabl v):=⟨fun(x0,_)=>
  .lp (s_Swept_L0_d (0,x0,(⟨[],[]⟩:Tabl),(⟨[],[]⟩:Tabl),())).lp fun(_,_,a7_1)=>
  .lp (s_Swept_L1_d (0,x0,(⟨[],[]⟩:Tabl),(⟨(⟨a7_1.conns,[]⟩:Tabl).conns,[]⟩:Tabl),())).lp fun(_,_,a10_1)=>
  .ret a10_1,
 fun(x0,_) hp=>by
  refine Tr.L (s_Swept_L0_k ?_ ?_ ?_ ?_) (fun(a7_0,a7_1) _=>Tr.L (s_Swept_L1_k ?_ ?_ ?_ ?_ ?_) (fun(a10_0,a10_1) _=>Tr.R ?_) (fun p=>Empty.elim p)) (fun p=>Empty.elim p)
  all_goals ((try simp only[s_Swept_L0_d,s_Swept_L1_d,LC.lp,LC.ct,Ct.lp]at*)<;>grind)⟩
noncomputable def s_Swept_e:=entT st s_Swept_x s_Swept_o [(leC 0 s_Swept_L0_h s_Swept_L0_d),(leC 2 s_Swept_L1_h s_Swept_L1_d)] (ks:=[.st .tabl]) s_Swept (fun v=>[(true,q_tabl (.o true) (.o true) v)]) Tryz.func194 ⟨s_Swept_L0_s,s_Swept_L1_s,trivial⟩ fun _=>by kernel_rfl
noncomputable def s_CacheOk_o:List (Ent1 Tryz.prog):=[s_WordOk_e,s_l1In_e,s_l15At_e]
def s_CacheOk_L0_h:Sh:=⟨[(0,false,[.sl .arg .entr]),(3,false,[.int .i64])],[]⟩
noncomputable def s_CacheOk_x:Fx:=⟨195,Tryz.f195,[(0,la ⟨[0,3],[],false,0⟩ ⟨[0,2],[],false,0⟩)],0⟩
noncomputable def s_CacheOk_L0_T (v0:List Entr)(v1:Int)(a:Unit):Tr (Stp (Unit) ((Unit))):=
 .grd ((decide (0≤v1))&&(decide (v1<(v0.length:Int))))<|
 .cal s_WordOk.c ((v0.getD v1.toNat (Ty.zero .entr)).ip,32,()) fun c1=>
 .ite (!c1) (.ret (.out ()))<|
 .cal s_WordOk.c ((v0.getD v1.toNat (Ty.zero .entr)).hw,48,()) fun c2=>
 .ite (!c2) (.ret (.out ()))<|
 .val (s_l1In.f ((v0.getD v1.toNat (Ty.zero .entr)).age,0,9,())) fun c3=>
 .ite (!c3) (.ret (.out ()))<|
 .grd ((decide (0≤v1))&&(decide (v1≤(v0.length:Int))))<|
 .cal s_l15At.c (((v0.take v1.toNat).drop 0),(v0.getD v1.toNat (Ty.zero .entr)).ip,()) fun c4=>
 .ite (decide (0≤c4)) (.ret (.out ()))<|
 .ret (.next ())
noncomputable def s_CacheOk_L0_d:s_CacheOk_L0_h.V→LC s_CacheOk_L0_h (Unit) ((Unit)) (((Unit))⊕(Int×Unit)):=fun(v0,v1,_)=>⟨v1,(),fun v1 _=>(v0,v1,()),fun v1 _=>(decide (v1<(v0.length:Int))),s_CacheOk_L0_T v0,up,1,(Int.toNat ((v0.length:Int)-v1)),.inl,fun i a=> .inr (i,a),fun _ k w=>Sum.elim (fun _=>k .ret (Sh.enc ⟨[(0,false,[.sl .arg .entr]),(2,false,[.bool])],[]⟩ (v0,false,()))) (fun _=>k (.exit 0) (Sh.enc ⟨[(0,false,[.sl .arg .entr]),(2,false,[.undef])],[]⟩ (v0,()))) w⟩
theorem s_CacheOk_L0_s:LS Tryz.prog s_CacheOk_x [0] (leC 0 s_CacheOk_L0_h s_CacheOk_L0_d):=loopC st (orcOf_ok s_CacheOk_o) _ s_CacheOk_L0_d [] trivial (by kernel_rfl) (fun _=>by kernel_rfl) fun _ _ _ _ _ _=>by kernel_rfl
theorem s_CacheOk_L0_k {v0:List Entr}{v1:Int}(h0:0≤v1)(h1:(v0.length:Int)≤4611686018427387904)(h2:sS v0):(s_CacheOk_L0_d (v0,v1,())).U (v0.length:Int) (fun _ _=>True) (fun _=>True):=
 LC.okU (i:=v1) (a:=()) (fun _ _=>rfl) (fun _=>rfl) rfl h0 h1 trivial fun v1 _ hj hk hv=>by
  refine Tr.G2 ?_ fun _=>Tr.C trivial fun _ _ _=>Tr.I (fun _=>Tr.Ro trivial) fun _=>Tr.C trivial fun _ _ _=>Tr.I (fun _=>Tr.Ro trivial) fun _=>Tr.V fun _ _=>Tr.I (fun _=>Tr.Ro trivial) fun _=>Tr.G2 ?_ fun _=>Tr.C ?_ fun _ _ _=>Tr.Z (by kernel_rfl)
  all_goals (grind)
noncomputable def s_CacheOk:FT (List Entr×Unit) (Bool) (fun x=>sS x.1) (fun x v=>(v=true→x.1.length≤4)):=⟨fun(x0,_)=>
  .lp (s_CacheOk_L0_d (x0,0,())).lp fun w5=> .sum w5 (fun _=>
  .ret false)<|
  fun _=>
  .ret (decide ((x0.length:Int)≤4)),
 fun(x0,_) hp=>by
  refine Tr.L (s_CacheOk_L0_k ?_ ?_ ?_) (fun _ _=>Tr.Sr (Tr.R ?_)) (fun _ _=>Tr.Sl (Tr.R ?_))
  all_goals ((try simp only[s_CacheOk_L0_d,LC.lp,LC.ct,Ct.lp]at*)<;>grind)⟩
noncomputable def s_CacheOk_e:=entT st s_CacheOk_x s_CacheOk_o [(leC 0 s_CacheOk_L0_h s_CacheOk_L0_d)] (ks:=[.sc (.sl .entr)]) s_CacheOk (fun v=>[(false,[.c (.bool v)])]) Tryz.func195 ⟨s_CacheOk_L0_s,trivial⟩ fun _=>by kernel_rfl
noncomputable def i_CacheOk_o:List (Ent1 Tryz.prog):=[i_WordOk_e,i_within_e,i_HwOf_e]
def i_CacheOk_L0_h:Sh:=⟨[(0,false,[.sl .arg .entr]),(10,false,[.sl .arg .entr]),(11,false,[.int .i64]),(12,false,[.int .i64])],[]⟩
noncomputable def i_CacheOk_x:Fx:=⟨196,Tryz.f196,[(0,la ⟨[0,10,11,12],[],false,0⟩ ⟨[2],[],false,0⟩),(3000006,rA 0 32)],0⟩
noncomputable def i_CacheOk_L0_T (v0 v1:List Entr)(v3:Int)(a:Unit):Tr (Stp (Unit) ((Unit))):=
 .grd ((decide (0≤v3))&&(decide (v3<(v1.length:Int))))<|
 .bnd (β:=Bool×Unit) (.cal i_WordOk.c ((v1.getD v3.toNat (Ty.zero .entr)).ip,32,()) fun c1=>
  .ite (!c1) (.ret (true,()))<|
  .cal i_WordOk.c ((v1.getD v3.toNat (Ty.zero .entr)).hw,48,()) fun c2=>
  .ite (!c2) (.ret (true,()))<|
  .val (i_within.f ((v1.getD v3.toNat (Ty.zero .entr)).age,0,9,())) fun c3=>
  .ret ((!c3),())) fun(u4a0,_)=>
 .ite u4a0 (.ret (.out ()))<|
 .grd ((decide (0≤v3))&&(decide (v3≤(v0.length:Int))))<|
 .cal i_HwOf.c (((v0.take v3.toNat).drop 0),(v1.getD v3.toNat (Ty.zero .entr)).ip,()) fun c5=>
 .ite c5.2 (.ret (.out ()))<|
 .ret (.next ())
noncomputable def i_CacheOk_L0_d:i_CacheOk_L0_h.V→LC i_CacheOk_L0_h (Unit) ((Unit)) (((Unit))⊕(Int×Unit)):=fun(v0,v1,v2,v3,_)=>⟨v3,(),fun v3 _=>(v0,v1,v2,v3,()),fun v3 _=>(decide (v3<v2)),i_CacheOk_L0_T v0 v1,up,1,(Int.toNat (v2-v3)),.inl,fun i a=> .inr (i,a),fun _ k w=>Sum.elim (fun _=>k .ret (Sh.enc ⟨[(2,false,[.bool])],[]⟩ (false,()))) (fun _=>k (.exit 0) (Sh.enc ⟨[(2,false,[.undef])],[]⟩ ())) w⟩
theorem i_CacheOk_L0_s:LS Tryz.prog i_CacheOk_x [0] (leC 0 i_CacheOk_L0_h i_CacheOk_L0_d):=loopC st (orcOf_ok i_CacheOk_o) _ i_CacheOk_L0_d [] trivial (by kernel_rfl) (fun _=>by kernel_rfl) fun _ _ _ _ _ _=>by kernel_rfl
theorem i_CacheOk_L0_k {v0 v1:List Entr}{v2 v3:Int}(h0:0≤v3)(h1:v2≤4611686018427387904)(h2:sS v0)(h3:sS v1)(h4:v2≤(v1.length:Int))(h5:v2≤(v0.length:Int)):(i_CacheOk_L0_d (v0,v1,v2,v3,())).U v2 (fun _ _=>True) (fun _=>True):=
 LC.okU (i:=v3) (a:=()) (fun _ _=>rfl) (fun _=>rfl) rfl h0 h1 trivial fun v3 _ hj hk hv=>by
  refine Tr.G2 ?_ fun _=>Tr.B (Q':=fun _=>True) (Tr.C trivial fun _ _ _=>Tr.I (fun _=>Tr.R trivial) fun _=>Tr.C trivial fun _ _ _=>Tr.F (by kernel_rfl) trivial) (fun(u4a0,_) _ _=>Tr.I (fun _=>Tr.Ro trivial) fun _=>Tr.G2 ?_ fun _=>Tr.C ?_ fun _ _ _=>Tr.Z (by kernel_rfl))
  all_goals ((try simp only[Tr.nice,letK]at*)<;>grind)
noncomputable def i_CacheOk:FT (List Entr×Unit) (Bool) (fun x=>sS x.1) (fun x v=>(v=true→x.1.length≤4)):=⟨fun(x0,_)=>
  .ite (decide (4<(x0.length:Int))) (.ret false)<|
  .lp (i_CacheOk_L0_d (x0,x0,(x0.length:Int),0,())).lp fun w6=> .sum w6 (fun _=>
  .ret false)<|
  fun _=>
  .ret true,
 fun(x0,_) hp=>by
  refine Tr.I (fun _=>Tr.R ?_) fun _=>Tr.L (i_CacheOk_L0_k ?_ ?_ ?_ ?_ ?_ ?_) (fun _ _=>Tr.Sr (Tr.R ?_)) (fun _ _=>Tr.Sl (Tr.R ?_))
  all_goals ((try simp only[i_CacheOk_L0_d,LC.lp,LC.ct,Ct.lp]at*)<;>grind)⟩
noncomputable def i_CacheOk_e:=entT st i_CacheOk_x i_CacheOk_o [(leC 0 i_CacheOk_L0_h i_CacheOk_L0_d)] (ks:=[.sc (.sl .entr)]) i_CacheOk (fun v=>[(false,[.c (.bool v)])]) Tryz.func196 ⟨i_CacheOk_L0_s,trivial⟩ fun _=>by kernel_rfl
noncomputable def s_SenderOk_o:List (Ent1 Tryz.prog):=[s_WordOk_e,s_l1In_e]
noncomputable def s_SenderOk_x:Fx:=⟨197,Tryz.f197,[(3000001,rA 0 21),(3000003,rA 0 36)],0⟩
noncomputable def s_SenderOk:FT (Sndr×Unit) (Bool) (fun _=>True) (fun x v=>(v=true↔SO x.1)):=⟨fun(x0,_)=>
  .bnd (β:=Bool×Unit) (.cal s_WordOk.c (x0.una,32,()) fun c1=>
   .ite (!c1) (.ret (true,()))<|
   .ite (decide (48<(x0.data.length:Int))) (.ret (true,()))<|
   .val (s_l1In.f (x0.sent,0,(x0.data.length:Int),())) fun c2=>
   .ret ((!c2),())) fun(u3a0,_)=>
  .ite u3a0 (.ret false)<|
  .bnd (β:=Bool×Unit) (.ite x0.finSent (.ite (!x0.fin) (.ret (true,()))<|
    .ret ((x0.sent != (x0.data.length:Int)),()))<|
   .ret (false,())) fun(u4a0,_)=>
  .ite u4a0 (.ret false)<|
  .ite (!x0.done) (.ret true)<|
  .ite x0.fin (.ite (!x0.finSent) (.ret (x0.data==[]))<|
   .ret false)<|
  .ret false,
 fun(x0,_) hp=>by
  refine Tr.B (Q':=fun _=>True) (Tr.C trivial fun _ _ _=>Tr.F (by kernel_rfl) trivial) (fun(u3a0,_) _ _=>Tr.I (fun _=>Tr.R ?_) fun _=>Tr.B (Q':=fun _=>True) (Tr.F (by kernel_rfl) trivial) (fun(u4a0,_) _ _=>Tr.I (fun _=>Tr.R ?_) fun _=>Tr.I (fun _=>Tr.R ?_) fun _=>Tr.I (fun _=>Tr.I (fun _=>Tr.R ?_) fun _=>Tr.R ?_) fun _=>Tr.R ?_))
  all_goals ((try simp only[Tr.nice,letK]at*)<;>grind)⟩
noncomputable def s_SenderOk_e:=entT st s_SenderOk_x s_SenderOk_o [] (ks:=[.st .sndr]) s_SenderOk (fun v=>[(false,[.c (.bool v)])]) Tryz.func197 trivial fun _=>by kernel_rfl
noncomputable def s_ReceiverOk_o:List (Ent1 Tryz.prog):=[s_WindowOf_e,s_WordOk_e,s_l1In_e]
def s_ReceiverOk_L0_h:Sh:=⟨[(1,false,[.ptr 0 0]),(3,false,[.int .i64]),(4,false,[.int .i64]),(5,false,[.int .i64])],[.box [.st .recv [.sl .arg]]]⟩
noncomputable def s_ReceiverOk_x:Fx:=⟨198,Tryz.f198,[(0,la ⟨[1,3,4,5],[],false,0⟩ ⟨[1,2,4],[],false,0⟩),(3000002,rA 0 36),(3000009,rA 0 73)],0⟩
noncomputable def s_ReceiverOk_L0_T (v0:Int)(v3:Recv)(v2:Int)(a:Int):Tr (Stp (Int) ((Int))):=
 .grd ((decide (0≤v2))&&(decide (v2<(v3.held.length:Int))))<|
 .bnd (β:=Bool×Unit) (.ite ((v3.held.getD v2.toNat (Ty.zero .piec)).text==[]) (.ret (true,()))<|
  .ite (decide ((v3.held.getD v2.toNat (Ty.zero .piec)).off≤a)) (.ret (true,()))<|
  .ite (decide (v0<(v3.held.getD v2.toNat (Ty.zero .piec)).off)) (.ret (true,()))<|
  .val (IntKind.wrap .i64 ((v3.held.getD v2.toNat (Ty.zero .piec)).off+(((v3.held.getD v2.toNat (Ty.zero .piec)).text).length:Int))) fun e5=>
  .ret ((decide (v0<e5)),())) fun(u6a0,_)=>
 .ite u6a0 (.ret (.out a))<|
 .val (IntKind.wrap .i64 ((v3.held.getD v2.toNat (Ty.zero .piec)).off+(((v3.held.getD v2.toNat (Ty.zero .piec)).text).length:Int))) fun e7=>
 .ret (.next e7)
noncomputable def s_ReceiverOk_L0_d:s_ReceiverOk_L0_h.V→LC s_ReceiverOk_L0_h (Int) ((Int)) (((Int))⊕(Int×Int)):=fun(v0,v1,v2,v3,_)=>⟨v2,v1,fun v2 a=>(v0,a,v2,v3,()),fun v2 _=>(decide (v2<(v3.held.length:Int))),s_ReceiverOk_L0_T v0 v3,up,1,(Int.toNat ((v3.held.length:Int)-v2)),.inl,fun i a=> .inr (i,a),fun _ k w=>Sum.elim (fun p=>k .ret (Sh.enc ⟨[(1,false,[.ptr 0 0]),(2,false,[.bool]),(4,false,[.int .i64])],[.box [.st .recv [.sl .arg]]]⟩ (false,p,v3,()))) (fun x=>k (.exit 0) (Sh.enc ⟨[(1,false,[.ptr 0 0]),(2,false,[.undef]),(4,false,[.int .i64])],[.box [.st .recv [.sl .arg]]]⟩ (x.2,v3,()))) w⟩
theorem s_ReceiverOk_L0_s:LS Tryz.prog s_ReceiverOk_x [0] (leC 0 s_ReceiverOk_L0_h s_ReceiverOk_L0_d):=loopC st (orcOf_ok s_ReceiverOk_o) _ s_ReceiverOk_L0_d [] trivial (by kernel_rfl) (fun _=>by kernel_rfl) fun _ _ _ _ _ _=>by kernel_rfl
theorem s_ReceiverOk_L0_k {v0 v1 v2:Int}{v3:Recv}(h0:0≤v2)(h1:(v3.held.length:Int)≤4611686018427387904)(h2:v0≤32)(h3:0≤v0)(h4:sm_recv v3)(h5:0≤v1∧v1≤32∧smE po (v3.held.take v2.toNat)):(s_ReceiverOk_L0_d (v0,v1,v2,v3,())).U (v3.held.length:Int) (fun v2 a=>0≤a∧a≤32∧smE po (v3.held.take v2.toNat)) (fun _=>True):=
 LC.okU (i:=v2) (a:=v1) (fun _ _=>rfl) (fun _=>rfl) rfl h0 h1 h5 fun v2 v1 hj hk hv=>by
  refine Tr.G2 ?_ fun _=>Tr.B (Q':=fun _=>True) (Tr.F (by kernel_rfl) trivial) (fun(u6a0,_) _ _=>Tr.I (fun _=>Tr.Ro trivial) fun _=>Tr.V fun _ _=>Tr.Rn ?_)
  all_goals ((try simp only[Tr.nice,letK]at*)<;>grind [←po_next])
noncomputable def s_ReceiverOk:FT (Recv×Unit) (Bool) (fun x=>sm_recv x.1) (fun x v=>(v=true→RO x.1)):=⟨fun(x0,_)=>
  .cal s_WindowOf.c (x0,()) fun c1=>
  .bnd (β:=Bool×Unit) (.cal s_WordOk.c (x0.next,32,()) fun c2=>
   .ite (!c2) (.ret (true,()))<|
   .ite (decide (32<(x0.data.length:Int))) (.ret (true,()))<|
   .ite (decide (3<(x0.held.length:Int))) (.ret (true,()))<|
   .val (s_l1In.f (x0.fin,(-1),c1,())) fun c3=>
   .ite (!c3) (.ret (true,()))<|
   .ret ((x0.fin==0),())) fun(u4a0,_)=>
  .ite u4a0 (.ret false)<|
  .lp (s_ReceiverOk_L0_d (c1,0,0,x0,())).lp fun w8=> .sum w8 (fun _=>
  .ret false)<|
  fun(_,a8_0)=>
  .ite (decide (x0.fin<0)) (.ite (!x0.done) (.ret true)<|
   .ite ((x0.held.length:Int)==0) (.ret (x0.fin==(-1)))<|
   .ret false)<|
  .ite (decide (a8_0≤x0.fin)) (.ite (!x0.done) (.ret true)<|
   .ite ((x0.held.length:Int)==0) (.ret (x0.fin==(-1)))<|
   .ret false)<|
  .ret false,
 fun(x0,_) hp=>by
  refine Tr.C ?_ fun _ _ _=>Tr.B (Q':=fun _=>True) (Tr.C trivial fun _ _ _=>Tr.F (by kernel_rfl) trivial) (fun(u4a0,_) _ _=>Tr.I (fun _=>Tr.R ?_) fun _=>Tr.L (s_ReceiverOk_L0_k ?_ ?_ ?_ ?_ ?_ ?_) (fun a8_0 _=>Tr.Sr (Tr.I (fun _=>Tr.I (fun _=>Tr.R ?_) fun _=>Tr.I (fun _=>Tr.R ?_) fun _=>Tr.R ?_) fun _=>Tr.I (fun _=>Tr.I (fun _=>Tr.R ?_) fun _=>Tr.I (fun _=>Tr.R ?_) fun _=>Tr.R ?_) fun _=>Tr.R ?_)) (fun p8a0 _=>Tr.Sl (Tr.R ?_)))
  all_goals ((try simp only[s_ReceiverOk_L0_d,LC.lp,LC.ct,Ct.lp,Tr.nice,letK]at*)<;>grind [po_all])⟩
noncomputable def s_ReceiverOk_e:=entT st s_ReceiverOk_x s_ReceiverOk_o [(leC 0 s_ReceiverOk_L0_h s_ReceiverOk_L0_d)] (ks:=[.st .recv]) s_ReceiverOk (fun v=>[(false,[.c (.bool v)])]) Tryz.func198 ⟨s_ReceiverOk_L0_s,trivial⟩ fun _=>by kernel_rfl
noncomputable def s_Overlaps_o:List (Ent1 Tryz.prog):=[s_SeqAdd_e,s_InWindow_e]
def s_Overlaps_L0_h:Sh:=⟨[(0,false,[.int .i64]),(1,false,[.int .i64]),(2,false,[.int .i64]),(3,false,[.int .i64]),(9,false,[.int .i64])],[]⟩
noncomputable def s_Overlaps_x:Fx:=⟨202,Tryz.f202,[(0,la ⟨[0,1,2,3,9],[],false,0⟩ ⟨[8],[],false,0⟩)],0⟩
noncomputable def s_Overlaps_L0_T (v0 v2 v3:Int)(v4:Int)(a:Unit):Tr (Stp (Unit) ((Unit)⊕(Unit))):=
 .ite (decide (v4<65536)) (.val (s_SeqAdd.f (v0,v4,())) fun c1=>
  .val (s_InWindow.f (c1,v2,v3,())) fun c2=>
  .ite c2 (.ret (.out (.inl ())))<|
  .ret (.next ()))<|
 .ret (.out (.inr (())))
noncomputable def s_Overlaps_L0_d:s_Overlaps_L0_h.V→LC s_Overlaps_L0_h (Unit) ((Unit)⊕(Unit)) (((Unit)⊕(Unit))⊕(Int×Unit)):=fun(v0,v1,v2,v3,v4,_)=>⟨v4,(),fun v4 _=>(v0,v1,v2,v3,v4,()),fun v4 _=>(decide (v4<v1)),s_Overlaps_L0_T v0 v2 v3,up,1,(Int.toNat (v1-v4)),.inl,fun i a=> .inr (i,a),fun _ k w=>Sum.elim (fun q=>Sum.elim (fun _=>k .ret (Sh.enc ⟨[(8,false,[.bool])],[]⟩ (true,()))) (fun _=>k (.exit 0) (Sh.enc ⟨[(8,false,[.undef])],[]⟩ ())) q) (fun _=>k (.exit 0) (Sh.enc ⟨[(8,false,[.undef])],[]⟩ ())) w⟩
theorem s_Overlaps_L0_s:LS Tryz.prog s_Overlaps_x [0] (leC 0 s_Overlaps_L0_h s_Overlaps_L0_d):=loopC st (orcOf_ok s_Overlaps_o) _ s_Overlaps_L0_d [] trivial (by kernel_rfl) (fun _=>by kernel_rfl) fun _ _ _ _ _ _=>by kernel_rfl
theorem s_Overlaps_L0_k {v0 v1 v2 v3 v4:Int}(h0:0≤v4)(h1:v1≤4611686018427387904):(s_Overlaps_L0_d (v0,v1,v2,v3,v4,())).U v1 (fun _ _=>True) (fun _=>True):=
 LC.okU (i:=v4) (a:=()) (fun _ _=>rfl) (fun _=>rfl) rfl h0 h1 trivial fun v4 _ hj hk hv=>Tr.Z (by kernel_rfl)
noncomputable def s_Overlaps:FT (Int×Int×Int×Int×Unit) (Bool) (fun x=>x.2.1≤4611686018427387904) (fun _ _=>True):=⟨fun(x0,x1,x2,x3,_)=>
  .lp (s_Overlaps_L0_d (x0,x1,x2,x3,0,())).lp fun w3=> .sum w3 (fun q3=> .sum q3 (fun _=>
  .ret true)<|
  fun _=>
  .ret false)<|
  fun _=>
  .ret false,
 fun(x0,x1,x2,x3,_) hp=>by
  refine Tr.L (s_Overlaps_L0_k ?_ ?_) (fun _ _=>Tr.Sr (Tr.R trivial)) (Tr.W2 (fun _ _=>Tr.Sl (Tr.Sl (Tr.R trivial))) (fun _ _=>Tr.Sl (Tr.Sr (Tr.R trivial))))
  all_goals ((try simp only[s_Overlaps_L0_d,LC.lp,LC.ct,Ct.lp]at*)<;>grind)⟩
noncomputable def s_Overlaps_e:=entT st s_Overlaps_x s_Overlaps_o [(leC 0 s_Overlaps_L0_h s_Overlaps_L0_d)] (ks:=[.sc (.int .i64),.sc (.int .i64),.sc (.int .i64),.sc (.int .i64)]) s_Overlaps (fun v=>[(false,[.c (.bool v)])]) Tryz.func202 ⟨s_Overlaps_L0_s,trivial⟩ fun _=>by kernel_rfl
noncomputable def i_cloneMac:FT (Mac×Unit) (Mac) (fun x=>sm_mac x.1) (fun x v=>sm_mac v∧v=x.1):=⟨fun(x0,_)=>
  .cal g_Clone_MacRow.c (x0.rows,()) fun c1=>
  .ret ({x0 with rows:=c1}:Mac),
 fun(x0,_) hp=>by
  refine Tr.C ?_ fun c1 hc1 qc1=>Tr.R ?_
  all_goals ((first|grind|(refine⟨by grind, ?_⟩;first|(simp only[List.nil_append];done)|(subst_vars;rfl)|simp_all)))⟩
noncomputable def i_cloneMac_e:=ent0 st Tryz.func218 [g_Clone_MacRow_e] (ks:=[.st .mac]) i_cloneMac (fun v=>[(true,q_mac (.o true) v)]) fun _=>by kernel_rfl
noncomputable def i_cloneReceiver:FT (Recv×Unit) (Recv) (fun x=>sm_recv x.1) (fun x v=>sm_recv v∧v=x.1):=⟨fun(x0,_)=>
  .cal g_Clone_Piece.c (x0.held,()) fun c1=>
  .ret ({x0 with held:=c1}:Recv),
 fun(x0,_) hp=>by
  refine Tr.C ?_ fun c1 hc1 qc1=>Tr.R ?_
  all_goals ((first|grind|(refine⟨by grind, ?_⟩;first|(simp only[List.nil_append];done)|(subst_vars;rfl)|simp_all)))⟩
noncomputable def i_cloneReceiver_e:=ent0 st Tryz.func222 [g_Clone_Piece_e] (ks:=[.st .recv]) i_cloneReceiver (fun v=>[(true,q_recv (.o true) v)]) fun _=>by kernel_rfl
noncomputable def i_NextOf:FT (Sndr×Unit) (Int) (fun x=>sm_sndr x.1) (fun _ _=>True):=⟨fun(x0,_)=>
  .cal i_flying.c (x0,()) fun c1=>
  .val (i_SeqAdd.f (x0.una,c1,())) fun c2=>
  .ret c2,
 fun(x0,_) hp=>by
  refine Tr.C ?_ fun _ _ _=>Tr.F (by kernel_rfl) trivial
  all_goals (grind)⟩
noncomputable def i_NextOf_e:=ent0 st Tryz.func227 [i_flying_e,i_SeqAdd_e] (ks:=[.st .sndr]) i_NextOf (fun v=>[(false,[.c (.int .i64 v)])]) fun _=>by kernel_rfl
noncomputable def s_PutWord_o:List (Ent1 Tryz.prog):=[s_l1In_e,s_WordOk_e]
def s_PutWord_L0_h:Sh:=⟨[(0,false,[.int .i64]),(5,false,[.own 0]),(6,false,[.int .i64])],[.arr .u8 false true]⟩
noncomputable def s_PutWord_x:Fx:=⟨236,Tryz.f236,[(0,la ⟨[0,5,6],[],false,0⟩ ⟨[4,5],[],false,0⟩),(3000001,rA 0 16)],0⟩
noncomputable def s_PutWord_L0_T (v1:Int)(a:Int×List Int):Tr (Stp (Int×List Int) (Empty)):=
 .grd ((decide (0≤v1))&&(decide (v1<(a.2.length:Int))))<|
 .ret (.next ((IntKind.wrap .i64 (a.1.tdiv 256)),(a.2.set v1.toNat (IntKind.wrap .u8 (a.1.tmod 256)))))
noncomputable def s_PutWord_L0_d:s_PutWord_L0_h.V→LC s_PutWord_L0_h (Int×List Int) (Empty) (Int×(Int×List Int)):=fun(v0,v1,v2,_)=>⟨v1,(v0,v2),fun v1 a=>(a.1,v1,a.2,()),fun v1 _=>(decide (0≤v1)),s_PutWord_L0_T,dn,(-1),(Int.toNat (v1-0+1)),(fun p=>Empty.elim p),fun i a=>(i,a),fun _ k x=>k (.exit 0) (Sh.enc ⟨[(4,false,[.undef]),(5,false,[.own 0])],[.arr .u8 false true]⟩ (x.2.2,()))⟩
theorem s_PutWord_L0_s:LS Tryz.prog s_PutWord_x [0] (leC 0 s_PutWord_L0_h s_PutWord_L0_d):=loopC st (orcOf_ok s_PutWord_o) _ s_PutWord_L0_d [] trivial (by kernel_rfl) (fun _=>by kernel_rfl) fun _ _ _ _ _ _=>by kernel_rfl
theorem s_PutWord_L0_k {v0 v1:Int}{v2:List Int}(h0:v1≤9223372036854775807)(h1:sS v2)(h2:v2.length=v2.length∧v1<(v2.length:Int)):(s_PutWord_L0_d (v0,v1,v2,())).D 0 (fun v1 a=>a.2.length=v2.length∧v1<(a.2.length:Int)) (fun _=>True):=
 LC.okD (i:=v1) (a:=(v0,v2)) (fun _ _=>rfl) (fun _=>rfl) rfl h0 (by decide) h2 fun v1 (v0,v2) hj hk hv=>by
  refine Tr.G2 ?_ fun _=>Tr.Rn ?_
  all_goals (grind)
noncomputable def s_PutWord:FT (Int×Int×Unit) (Bytes) (fun _=>True) (fun x v=>sS v∧(v.length:Int)≤max x.2.1 0):=⟨fun(x0,x1,_)=>
  .bnd (β:=Bool×Unit) (.val (s_l1In.f (x1,1,6,())) fun c1=>
   .ite (!c1) (.ret (true,()))<|
   .cal s_WordOk.c (x0,(IntKind.wrap .i64 (8*x1)),()) fun c2=>
   .ret ((!c2),())) fun(u3a0,_)=>
  .ite u3a0 (.ret [])<|
  .grd ((((decide (0≤x1))&&(decide (x1=x1)))&&(decide (x1*1≤(maxSl:Int))))&&(decide (x1≤(maxSl:Int))))<|
  .lp (s_PutWord_L0_d (x0,(IntKind.wrap .i64 (x1-1)),(List.replicate x1.toNat 0),())).lp fun(_,_,a4_1)=>
  .ret (toBytes a4_1),
 fun(x0,x1,_) hp=>by
  refine Tr.B (Q':=fun _=>True) (Tr.V fun _ _=>Tr.I (fun _=>Tr.R trivial) fun _=>Tr.C trivial fun _ _ _=>Tr.R trivial) (fun(u3a0,_) _ _=>Tr.I (fun _=>Tr.R ?_) fun _=>Tr.G4 ?_ fun _=>Tr.L (s_PutWord_L0_k ?_ ?_ ?_) (fun(a4_0,a4_1) _=>Tr.R ?_) (fun p=>Empty.elim p))
  all_goals ((try simp only[s_PutWord_L0_d,LC.lp,LC.ct,Ct.lp,Tr.nice,letK]at*)<;>grind)⟩
noncomputable def s_PutWord_e:=entT st s_PutWord_x s_PutWord_o [(leC 0 s_PutWord_L0_h s_PutWord_L0_d)] (ks:=[.sc (.int .i64),.sc (.int .i64)]) s_PutWord (fun v=>[(false,[.c (.str v)])]) Tryz.func236 ⟨s_PutWord_L0_s,trivial⟩ fun _=>by kernel_rfl
noncomputable def i_SenderOk_o:List (Ent1 Tryz.prog):=[i_WordOk_e,i_within_e]
noncomputable def i_SenderOk_x:Fx:=⟨241,Tryz.f241,[(3000001,rA 0 21),(3000003,rA 0 36)],0⟩
noncomputable def i_SenderOk:FT (Sndr×Unit) (Bool) (fun _=>True) (fun x v=>(v=true↔SO x.1)):=⟨fun(x0,_)=>
  .bnd (β:=Bool×Unit) (.cal i_WordOk.c (x0.una,32,()) fun c1=>
   .ite (!c1) (.ret (true,()))<|
   .ite (decide (48<(x0.data.length:Int))) (.ret (true,()))<|
   .val (i_within.f (x0.sent,0,(x0.data.length:Int),())) fun c2=>
   .ret ((!c2),())) fun(u3a0,_)=>
  .ite u3a0 (.ret false)<|
  .bnd (β:=Bool×Unit) (.ite x0.finSent (.ite (!x0.fin) (.ret (true,()))<|
    .ret ((x0.sent != (x0.data.length:Int)),()))<|
   .ret (false,())) fun(u4a0,_)=>
  .ite u4a0 (.ret false)<|
  .ite (!x0.done) (.ret true)<|
  .ite x0.fin (.ite (!x0.finSent) (.ret (x0.data==[]))<|
   .ret false)<|
  .ret false,
 fun(x0,_) hp=>by
  refine Tr.B (Q':=fun _=>True) (Tr.C trivial fun _ _ _=>Tr.F (by kernel_rfl) trivial) (fun(u3a0,_) _ _=>Tr.I (fun _=>Tr.R ?_) fun _=>Tr.B (Q':=fun _=>True) (Tr.F (by kernel_rfl) trivial) (fun(u4a0,_) _ _=>Tr.I (fun _=>Tr.R ?_) fun _=>Tr.I (fun _=>Tr.R ?_) fun _=>Tr.I (fun _=>Tr.I (fun _=>Tr.R ?_) fun _=>Tr.R ?_) fun _=>Tr.R ?_))
  all_goals ((try simp only[Tr.nice,letK]at*)<;>grind)⟩
noncomputable def i_SenderOk_e:=entT st i_SenderOk_x i_SenderOk_o [] (ks:=[.st .sndr]) i_SenderOk (fun v=>[(false,[.c (.bool v)])]) Tryz.func241 trivial fun _=>by kernel_rfl
noncomputable def i_ReceiverOk_o:List (Ent1 Tryz.prog):=[i_WindowOf_e,i_WordOk_e,i_within_e]
def i_ReceiverOk_L0_h:Sh:=⟨[(1,false,[.ptr 0 0]),(4,false,[.int .i64]),(5,false,[.int .i64]),(45,false,[.sl .arg .piec]),(46,false,[.int .i64]),(47,false,[.int .i64])],[.box [.st .recv [.sl .arg]]]⟩
def i_ReceiverOk_J41_a:An:=⟨⟨[],[],false,0⟩,⟨[1,2,4],[],false,0⟩,⟨[],[]⟩,[(.normal,⟨[(1,false,[.ptr 0 0]),(2,false,[.bool]),(4,false,[.int .i64])],[.box [.st .recv [.sl .arg]]]⟩)]⟩
noncomputable def i_ReceiverOk_x:Fx:=⟨242,Tryz.f242,[(0,la ⟨[1,4,5,45,46,47],[],false,0⟩ ⟨[1,2],[],false,0⟩),(1000041,i_ReceiverOk_J41_a),(3000002,rA 0 37),(3000011,rA 0 69)],0⟩
noncomputable def i_ReceiverOk_L0_T (v0:Int)(v2:List Piec)(v4:Int)(a:Int):Tr (Stp (Int) ((Unit))):=
 .grd ((decide (0≤v4))&&(decide (v4<(v2.length:Int))))<|
 .bnd (β:=Bool×Unit) (.ite ((v2.getD v4.toNat (Ty.zero .piec)).text==[]) (.ret (true,()))<|
  .ite (decide ((v2.getD v4.toNat (Ty.zero .piec)).off≤a)) (.ret (true,()))<|
  .val (IntKind.wrap .i64 (v0-(((v2.getD v4.toNat (Ty.zero .piec)).text).length:Int))) fun e6=>
  .ret ((decide (e6<(v2.getD v4.toNat (Ty.zero .piec)).off)),())) fun(u7a0,_)=>
 .ite u7a0 (.ret (.out ()))<|
 .val (IntKind.wrap .i64 ((v2.getD v4.toNat (Ty.zero .piec)).off+(((v2.getD v4.toNat (Ty.zero .piec)).text).length:Int))) fun e8=>
 .ret (.next e8)
noncomputable def i_ReceiverOk_L0_d:i_ReceiverOk_L0_h.V→LC i_ReceiverOk_L0_h (Int) ((Unit)) (((Unit))⊕(Int×Int)):=fun(v0,v1,v2,v3,v4,v5,_)=>⟨v4,v1,fun v4 a=>(v0,a,v2,v3,v4,v5,()),fun v4 _=>(decide (v4<v3)),i_ReceiverOk_L0_T v0 v2,up,1,(Int.toNat (v3-v4)),.inl,fun i a=> .inr (i,a),fun _ k w=>Sum.elim (fun _=>k .ret (Sh.enc ⟨[(1,false,[.ptr 0 0]),(2,false,[.bool])],[.box [.st .recv [.sl .arg]]]⟩ (false,v5,()))) (fun _=>k (.exit 0) (Sh.enc ⟨[(1,false,[.ptr 0 0]),(2,false,[.undef])],[.box [.st .recv [.sl .arg]]]⟩ (v5,()))) w⟩
theorem i_ReceiverOk_L0_s:LS Tryz.prog i_ReceiverOk_x [0] (leC 0 i_ReceiverOk_L0_h i_ReceiverOk_L0_d):=loopC st (orcOf_ok i_ReceiverOk_o) _ i_ReceiverOk_L0_d [] trivial (by kernel_rfl) (fun _=>by kernel_rfl) fun _ _ _ _ _ _=>by kernel_rfl
theorem i_ReceiverOk_L0_k {v0 v1 v3 v4:Int}{v2:List Piec}{v5:Recv}(h0:0≤v4)(h1:v3≤4611686018427387904)(h2:v0≤32)(h3:0≤v0)(h4:sL sm_piec v2)(h5:v3≤(v2.length:Int))(h6:0≤v1∧v1≤32∧smE (pw v0) (v2.take v4.toNat)):(i_ReceiverOk_L0_d (v0,v1,v2,v3,v4,v5,())).U v3 (fun v4 a=>0≤a∧a≤32∧smE (pw v0) (v2.take v4.toNat)) (fun _=>True):=
 LC.okU (i:=v4) (a:=v1) (fun _ _=>rfl) (fun _=>rfl) rfl h0 h1 h6 fun v4 v1 hj hk hv=>by
  refine Tr.G2 ?_ fun _=>Tr.B (Q':=fun _=>True) (Tr.F (by kernel_rfl) trivial) (fun(u7a0,_) _ _=>Tr.I (fun _=>Tr.Ro trivial) fun _=>Tr.V fun _ _=>Tr.Rn ?_)
  all_goals ((try simp only[Tr.nice,letK]at*)<;>grind [←pw_next])
noncomputable def i_ReceiverOk:FT (Recv×Unit) (Bool) (fun x=>sm_recv x.1) (fun x v=>(v=true→RO x.1)∧(v=true→smE (pw (winR x.1)) x.1.held)):=⟨fun(x0,_)=>
  .cal i_WindowOf.c (x0,()) fun c1=>
  .bnd (β:=Bool×Unit) (.cal i_WordOk.c (x0.next,32,()) fun c2=>
   .ite (!c2) (.ret (true,()))<|
   .ite (decide (32<(x0.data.length:Int))) (.ret (true,()))<|
   .ite (decide (3<(x0.held.length:Int))) (.ret (true,()))<|
   .val (i_within.f (x0.fin,(-1),c1,())) fun c3=>
   .ite (!c3) (.ret (true,()))<|
   .ret ((x0.fin==0),())) fun(u4a0,_)=>
  .ite u4a0 (.ret false)<|
  .bnd (β:=Bool×Int×Recv×Unit) (.ite (x0.fin != (-1)) (.ret (false,x0.fin,x0,()))<|
   .ret (false,c1,x0,())) fun(_,u5a1,u5a2,_)=>
  .lp (i_ReceiverOk_L0_d (u5a1,0,u5a2.held,(u5a2.held.length:Int),0,u5a2,())).lp fun w9=> .sum w9 (fun _=>
  .ret false)<|
  fun _=>
  .ite (!u5a2.done) (.ret true)<|
  .ite ((u5a2.held.length:Int)==0) (.ret (u5a2.fin==(-1)))<|
  .ret false,
 fun(x0,_) hp=>by
  refine Tr.C ?_ fun c1 hc1 qc1=>Tr.B (Q':=fun _=>True) (Tr.C trivial fun c2 hc2 qc2=>Tr.F (by kernel_rfl) trivial) (fun(u4a0,_) hj4 qj4=>Tr.I (fun b0=>Tr.R ?_) fun b0=>Tr.B (Q':=fun w=>sm_recv w.2.2.1∧0≤w.2.1∧w.2.1≤32∧w.2.2.1=x0∧(x0.data.length≤32→w.2.1≤winR x0)) (Tr.I (fun b1=>Tr.R ?_) fun b1=>Tr.R ?_) (fun(u5a0,u5a1,u5a2,_) hj5 qj5=>Tr.L (i_ReceiverOk_L0_k ?_ ?_ ?_ ?_ ?_ ?_ ?_) (fun a9_0 i9=>Tr.Sr (Tr.I (fun b1=>Tr.R ?_) fun b1=>Tr.I (fun b2=>Tr.R ?_) fun b2=>Tr.R ?_)) (fun _ hp9=>Tr.Sl (Tr.R ?_))))
  all_goals ((try simp only[i_ReceiverOk_L0_d,LC.lp,LC.ct,Ct.lp,Tr.nice,letK]at*)<;>grind [pw_all,pw_le,pw_po])⟩
noncomputable def i_ReceiverOk_e:=entT st i_ReceiverOk_x i_ReceiverOk_o [(leC 0 i_ReceiverOk_L0_h i_ReceiverOk_L0_d)] (ks:=[.st .recv]) i_ReceiverOk (fun v=>[(false,[.c (.bool v)])]) Tryz.func242 ⟨i_ReceiverOk_L0_s,trivial⟩ fun _=>by kernel_rfl
noncomputable def s_Learned_o:List (Ent1 Tryz.prog):=[s_CacheOk_e,s_WordOk_e,s_l15At_e]
def s_Learned_L0_h:Sh:=⟨[(1,false,[.int .i64]),(2,false,[.int .i64]),(7,false,[.own 0]),(9,false,[.int .i64]),(10,false,[.int .i64])],[.arr .entr false true]⟩
noncomputable def s_Learned_x:Fx:=⟨247,Tryz.f247,[(0,la ⟨[1,2,7,9,10],[],false,0⟩ ⟨[1,2,6,7,9],[.soft 7 0],false,0⟩),(3000002,rA 0 26)],0⟩
noncomputable def s_Learned_L0_T (v4:List Entr)(v3:Int)(a:Int):Tr (Stp (Int) (Empty)):=
 .grd ((decide (0≤v3))&&(decide (v3<(v4.length:Int))))<|
 .grd ((decide (0≤a))&&(decide (a<(v4.length:Int))))<|
 .ite (decide ((v4.getD a.toNat (Ty.zero .entr)).age<(v4.getD v3.toNat (Ty.zero .entr)).age)) (.ret (.next v3))<|
 .ret (.next a)
noncomputable def s_Learned_L0_d:s_Learned_L0_h.V→LC s_Learned_L0_h (Int) (Empty) (Int×Int):=fun(v0,v1,v2,v3,v4,_)=>⟨v3,v2,fun v3 a=>(v0,v1,a,v3,v4,()),fun v3 _=>(decide (v3<(v4.length:Int))),s_Learned_L0_T v4,up,1,(Int.toNat ((v4.length:Int)-v3)),(fun p=>Empty.elim p),fun i a=>(i,a),fun _ k x=>k (.exit 0) (Sh.enc ⟨[(1,false,[.int .i64]),(2,false,[.int .i64]),(6,false,[.undef]),(7,false,[.sl .any .entr]),(9,false,[.int .i64])],[]⟩ (v0,v1,v4,x.2,()))⟩
theorem s_Learned_L0_s:LS Tryz.prog s_Learned_x [0] (leC 0 s_Learned_L0_h s_Learned_L0_d):=loopC st (orcOf_ok s_Learned_o) _ s_Learned_L0_d [] trivial (by kernel_rfl) (fun _=>by kernel_rfl) fun _ _ _ _ _ _=>by kernel_rfl
theorem s_Learned_L0_k {v0 v1 v2 v3:Int}{v4:List Entr}(h0:0≤v3)(h1:(v4.length:Int)≤4611686018427387904)(h2:0≤v2∧v2<v4.length):(s_Learned_L0_d (v0,v1,v2,v3,v4,())).U (v4.length:Int) (fun v3 a=>0≤a∧a<v4.length) (fun _=>True):=
 LC.okU (i:=v3) (a:=v2) (fun _ _=>rfl) (fun _=>rfl) rfl h0 h1 h2 fun v3 v2 hj hk hv=>by
  refine Tr.G2 ?_ fun _=>Tr.G2 ?_ fun _=>Tr.I (fun _=>Tr.Rn ?_) fun _=>Tr.Rn ?_
  all_goals (grind)
noncomputable def s_Learned:FT (List Entr×Int×Int×Unit) (List Entr) (fun x=>sS x.1) (fun x v=>sS v∧v.length≤x.1.length+1):=⟨fun(x0,x1,x2,_)=>
  .grd (Nat.ble ((2*(0+x0.length)+1024)*24) maxSl)<|
  .bnd (β:=Bool×Unit) (.cal s_CacheOk.c (x0,()) fun c1=>
   .ite (!c1) (.ret (true,()))<|
   .cal s_WordOk.c (x1,32,()) fun c2=>
   .ite (!c2) (.ret (true,()))<|
   .cal s_WordOk.c (x2,48,()) fun c3=>
   .ret ((!c3),())) fun(u4a0,_)=>
  .ite u4a0 (.ret ([]++x0))<|
  .cal s_l15At.c (x0,x1,()) fun c5=>
  .ite (decide (0≤c5)) (.grd ((decide (0≤c5))&&(decide (c5<(([]++x0).length:Int))))<|
   .ret (([]++x0).set c5.toNat (⟨x1,x2,0⟩:Entr)))<|
  .ite ((([]++x0).length:Int)==4) (.lp (s_Learned_L0_d (x1,x2,0,1,([]++x0),())).lp fun(_,a6_0)=>
   .grd ((decide (0≤a6_0))&&(decide (a6_0≤(([]++x0).length:Int))))<|
   .grd (Nat.ble ((2*(0+((([]++x0).take a6_0.toNat).drop 0).length)+1024)*24) maxSl)<|
   .grd (((decide (0≤(IntKind.wrap .i64 (a6_0+1))))&&(decide ((IntKind.wrap .i64 (a6_0+1))≤(([]++x0).length:Int))))&&(decide ((([]++x0).length:Int)≤(([]++x0).length:Int))))<|
   .grd (Nat.ble ((2*(([]++((([]++x0).take a6_0.toNat).drop 0)).length+((([]++x0).take ((([]++x0).length:Int).toNat)).drop ((IntKind.wrap .i64 (a6_0+1)).toNat)).length)+1024)*24) maxSl)<|
   .val (([]++((([]++x0).take a6_0.toNat).drop 0))++((([]++x0).take ((([]++x0).length:Int).toNat)).drop ((IntKind.wrap .i64 (a6_0+1)).toNat))) fun l7=>
   .grd (Nat.ble ((2*(l7.length+1)+1024)*24) maxSl)<|
   .ret (l7++[(⟨x1,x2,0⟩:Entr)]))<|
  .grd (Nat.ble ((2*(([]++x0).length+1)+1024)*24) maxSl)<|
  .ret (([]++x0)++[(⟨x1,x2,0⟩:Entr)]),
 fun(x0,x1,x2,_) hp=>by
  refine Tr.Gb ?_ fun _=>Tr.B (Q':=fun w=>(w.1=false→x0.length≤4)) (Tr.C ?_ fun _ _ _=>Tr.I (fun _=>Tr.R ?_) fun _=>Tr.C trivial fun _ _ _=>Tr.I (fun _=>Tr.R ?_) fun _=>Tr.C trivial fun _ _ _=>Tr.R ?_) (fun(u4a0,_) _ _=>Tr.I (fun _=>Tr.R ?_) fun _=>Tr.C ?_ fun _ _ _=>Tr.I (fun _=>Tr.G2 ?_ fun _=>Tr.R ?_) fun _=>Tr.I (fun _=>Tr.L (s_Learned_L0_k ?_ ?_ ?_) (fun a6_0 _=>Tr.G2 ?_ fun _=>Tr.Gb ?_ fun _=>Tr.G3 ?_ fun _=>Tr.Gb ?_ fun _=>Tr.V fun _ _=>Tr.Gb ?_ fun _=>Tr.R ?_) (fun p=>Empty.elim p)) fun _=>Tr.Gb ?_ fun _=>Tr.R ?_)
  all_goals ((try simp only[s_Learned_L0_d,LC.lp,LC.ct,Ct.lp,Tr.nice,letK]at*)<;>grind)⟩
noncomputable def s_Learned_e:=entT st s_Learned_x s_Learned_o [(leC 0 s_Learned_L0_h s_Learned_L0_d)] (ks:=[.sc (.sl .entr),.sc (.int .i64),.sc (.int .i64)]) s_Learned (fun v=>[(false,[sc (.o true) .entr v])]) Tryz.func247 ⟨s_Learned_L0_s,trivial⟩ fun _=>by kernel_rfl
noncomputable def i_Rewound:FT (Sndr×Unit) (Sndr) (fun x=>sm_sndr x.1) (fun x v=>sm_sndr v):=⟨fun(x0,_)=>
  .cal i_SenderOk.c (x0,()) fun c1=>
  .ite (!c1) (.ret x0)<|
  .ret ({x0 with sent:=0,finSent:=false}:Sndr),
 fun(x0,_) hp=>by
  refine Tr.C trivial fun _ _ _=>Tr.I (fun _=>Tr.R ?_) fun _=>Tr.R ?_
  all_goals (grind)⟩
noncomputable def i_Rewound_e:=ent0 st Tryz.func252 [i_SenderOk_e] (ks:=[.st .sndr]) i_Rewound (fun v=>[(true,q_sndr v)]) fun _=>by kernel_rfl
noncomputable def i_PutWord_o:List (Ent1 Tryz.prog):=[i_within_e,i_WordOk_e]
def i_PutWord_L0_h:Sh:=⟨[(0,false,[.int .i64]),(5,false,[.own 0]),(6,false,[.int .i64])],[.arr .u8 false true]⟩
noncomputable def i_PutWord_x:Fx:=⟨260,Tryz.f260,[(0,la ⟨[0,5,6],[],false,0⟩ ⟨[4,5],[],false,0⟩),(3000001,rA 0 16)],0⟩
noncomputable def i_PutWord_L0_T (v1:Int)(a:Int×List Int):Tr (Stp (Int×List Int) (Empty)):=
 .grd ((decide (0≤v1))&&(decide (v1<(a.2.length:Int))))<|
 .ret (.next ((a.1.fdiv 256),(a.2.set v1.toNat (IntKind.wrap .u8 a.1))))
noncomputable def i_PutWord_L0_d:i_PutWord_L0_h.V→LC i_PutWord_L0_h (Int×List Int) (Empty) (Int×(Int×List Int)):=fun(v0,v1,v2,_)=>⟨v1,(v0,v2),fun v1 a=>(a.1,v1,a.2,()),fun v1 _=>(decide (0≤v1)),i_PutWord_L0_T,dn,(-1),(Int.toNat (v1-0+1)),(fun p=>Empty.elim p),fun i a=>(i,a),fun _ k x=>k (.exit 0) (Sh.enc ⟨[(4,false,[.undef]),(5,false,[.own 0])],[.arr .u8 false true]⟩ (x.2.2,()))⟩
theorem i_PutWord_L0_s:LS Tryz.prog i_PutWord_x [0] (leC 0 i_PutWord_L0_h i_PutWord_L0_d):=loopC st (orcOf_ok i_PutWord_o) _ i_PutWord_L0_d [] trivial (by kernel_rfl) (fun _=>by kernel_rfl) fun _ _ _ _ _ _=>by kernel_rfl
theorem i_PutWord_L0_k {v0 v1:Int}{v2:List Int}(h0:v1≤9223372036854775807)(h1:sS v2)(h2:v2.length=v2.length∧v1<(v2.length:Int)):(i_PutWord_L0_d (v0,v1,v2,())).D 0 (fun v1 a=>a.2.length=v2.length∧v1<(a.2.length:Int)) (fun _=>True):=
 LC.okD (i:=v1) (a:=(v0,v2)) (fun _ _=>rfl) (fun _=>rfl) rfl h0 (by decide) h2 fun v1 (v0,v2) hj hk hv=>by
  refine Tr.G2 ?_ fun _=>Tr.Rn ?_
  all_goals (grind)
noncomputable def i_PutWord:FT (Int×Int×Unit) (Bytes) (fun _=>True) (fun x v=>sS v∧(v.length:Int)≤max x.2.1 0):=⟨fun(x0,x1,_)=>
  .bnd (β:=Bool×Unit) (.val (i_within.f (x1,1,6,())) fun c1=>
   .ite (!c1) (.ret (true,()))<|
   .cal i_WordOk.c (x0,(IntKind.wrap .i64 (8*x1)),()) fun c2=>
   .ret ((!c2),())) fun(u3a0,_)=>
  .ite u3a0 (.ret [])<|
  .grd ((((decide (0≤x1))&&(decide (x1=x1)))&&(decide (x1*1≤(maxSl:Int))))&&(decide (x1≤(maxSl:Int))))<|
  .lp (i_PutWord_L0_d (x0,(IntKind.wrap .i64 (x1-1)),(List.replicate x1.toNat 0),())).lp fun(_,_,a4_1)=>
  .ret (toBytes a4_1),
 fun(x0,x1,_) hp=>by
  refine Tr.B (Q':=fun _=>True) (Tr.V fun _ _=>Tr.I (fun _=>Tr.R trivial) fun _=>Tr.C trivial fun _ _ _=>Tr.R trivial) (fun(u3a0,_) _ _=>Tr.I (fun _=>Tr.R ?_) fun _=>Tr.G4 ?_ fun _=>Tr.L (i_PutWord_L0_k ?_ ?_ ?_) (fun(a4_0,a4_1) _=>Tr.R ?_) (fun p=>Empty.elim p))
  all_goals ((try simp only[i_PutWord_L0_d,LC.lp,LC.ct,Ct.lp,Tr.nice,letK]at*)<;>grind)⟩
noncomputable def i_PutWord_e:=entT st i_PutWord_x i_PutWord_o [(leC 0 i_PutWord_L0_h i_PutWord_L0_d)] (ks:=[.sc (.int .i64),.sc (.int .i64)]) i_PutWord (fun v=>[(false,[.c (.str v)])]) Tryz.func260 ⟨i_PutWord_L0_s,trivial⟩ fun _=>by kernel_rfl
noncomputable def i_SumOf:FT (Bytes×Unit) (Int) (fun x=>sS x.1) (fun _ _=>True):=⟨fun(x0,_)=>
  .cal i_WordSum.c (x0,()) fun c1=>
  .cal i_Folded.c (c1,()) fun c2=>
  .ret (IntKind.wrap .i64 (65535-c2)),
 fun(x0,_) hp=>by
  refine Tr.C ?_ fun _ _ _=>Tr.C ?_ fun _ _ _=>Tr.R trivial
  all_goals (grind)⟩
noncomputable def i_SumOf_e:=ent0 st Tryz.func261 [i_WordSum_e,i_Folded_e] (ks:=[.sc .str]) i_SumOf (fun v=>[(false,[.c (.int .i64 v)])]) fun _=>by kernel_rfl
noncomputable def s_NextOf:FT (Sndr×Unit) (Int) (fun x=>sm_sndr x.1) (fun _ _=>True):=⟨fun(x0,_)=>
  .cal s_l17Flown.c (x0,()) fun c1=>
  .val (s_SeqAdd.f (x0.una,c1,())) fun c2=>
  .ret c2,
 fun(x0,_) hp=>by
  refine Tr.C ?_ fun _ _ _=>Tr.F (by kernel_rfl) trivial
  all_goals (grind)⟩
noncomputable def s_NextOf_e:=ent0 st Tryz.func267 [s_l17Flown_e,s_SeqAdd_e] (ks:=[.st .sndr]) s_NextOf (fun v=>[(false,[.c (.int .i64 v)])]) fun _=>by kernel_rfl
noncomputable def s_NextChunk_o:List (Ent1 Tryz.prog):=[s_SenderOk_e,s_l1Min_e,s_l1Max_e,s_l17Flown_e,s_NextOf_e]
noncomputable def s_NextChunk_x:Fx:=⟨268,Tryz.f268,[(3000007,rA 0 79)],0⟩
noncomputable def s_NextChunk:FT (Sndr×Int×Int×Unit) (Chun×Bool) (fun x=>sm_sndr x.1) (fun x v=>sm_chun v.1∧(v.2=true→SO x.1∧(v.1.text.length:Int)+x.1.sent≤x.1.data.length∧x.1.finSent=false∧(v.1.text=[]→v.1.fin=true)∧(v.1.fin=true→x.1.fin=true∧x.1.done=false∧x.1.sent+v.1.text.length=x.1.data.length))):=⟨fun(x0,x1,x2,_)=>
  .cal s_SenderOk.c (x0,()) fun c1=>
  .ite (!c1) (.ret ((⟨0,[],false⟩:Chun),false))<|
  .val (s_l1Min.f (x1,1000000,())) fun c2=>
  .val (s_l1Max.f (0,c2,())) fun c3=>
  .cal s_l17Flown.c (x0,()) fun c4=>
  .val (s_l1Max.f (0,(IntKind.wrap .i64 (c3-c4)),())) fun c5=>
  .val (s_l1Min.f (x2,c5,())) fun c6=>
  .val (s_l1Min.f (c6,(IntKind.wrap .i64 ((x0.data.length:Int)-x0.sent)),())) fun c7=>
  .val (s_l1Max.f (0,c7,())) fun c8=>
  .cal s_NextOf.c (x0,()) fun c9=>
  .grd (((decide (0≤x0.sent))&&(decide (x0.sent≤(IntKind.wrap .i64 (x0.sent+c8)))))&&(decide ((IntKind.wrap .i64 (x0.sent+c8))≤(x0.data.length:Int))))<|
  .val ((x0.data.take ((IntKind.wrap .i64 (x0.sent+c8)).toNat)).drop x0.sent.toNat) fun e10=>
  .ite x0.fin (.ite (!x0.finSent) (.ite (!x0.done) (.ite ((IntKind.wrap .i64 (x0.sent+c8))==(x0.data.length:Int)) (.bnd (β:=Bool×Unit) (.ite (c8==0) (.ret ((!(decide (c8<c5))),()))<|
       .ret (false,())) fun(u11a0,_)=>
      .ite u11a0 (.ret ((⟨0,[],false⟩:Chun),false))<|
      .ret ((⟨c9,e10,(decide (c8<c5))⟩:Chun),true))<|
     .bnd (β:=Bool×Unit) (.ite (c8==0) (.ret (true,()))<|
      .ret (false,())) fun(u12a0,_)=>
     .ite u12a0 (.ret ((⟨0,[],false⟩:Chun),false))<|
     .ret ((⟨c9,e10,false⟩:Chun),true))<|
    .bnd (β:=Bool×Unit) (.ite (c8==0) (.ret (true,()))<|
     .ret (false,())) fun(u13a0,_)=>
    .ite u13a0 (.ret ((⟨0,[],false⟩:Chun),false))<|
    .ret ((⟨c9,e10,false⟩:Chun),true))<|
   .bnd (β:=Bool×Unit) (.ite (c8==0) (.ret (true,()))<|
    .ret (false,())) fun(u14a0,_)=>
   .ite u14a0 (.ret ((⟨0,[],false⟩:Chun),false))<|
   .ret ((⟨c9,e10,false⟩:Chun),true))<|
  .bnd (β:=Bool×Unit) (.ite (c8==0) (.ret (true,()))<|
   .ret (false,())) fun(u15a0,_)=>
  .ite u15a0 (.ret ((⟨0,[],false⟩:Chun),false))<|
  .ret ((⟨c9,e10,false⟩:Chun),true),
 fun(x0,x1,x2,_) hp=>by
  refine Tr.C trivial fun c1 hc1 qc1=>Tr.I (fun b0=>Tr.R ?_) fun b0=>Tr.V fun c2 hc2=>Tr.V fun c3 hc3=>Tr.C ?_ fun c4 hc4 qc4=>Tr.V fun c5 hc5=>Tr.V fun c6 hc6=>Tr.V fun c7 hc7=>Tr.V fun c8 hc8=>Tr.C ?_ fun c9 hc9 qc9=>Tr.G3 ?_ fun g1=>Tr.V fun e10 he10=>Tr.I (fun b2=>Tr.I (fun b3=>Tr.I (fun b4=>Tr.I (fun b5=>Tr.B (Q':=fun _=>True) (Tr.F (by kernel_rfl) trivial) (fun(u11a0,_) hj11 qj11=>Tr.I (fun b6=>Tr.R ?_) fun b6=>Tr.R ?_)) fun b5=>Tr.B (Q':=fun _=>True) (Tr.F (by kernel_rfl) trivial) (fun(u12a0,_) hj12 qj12=>Tr.I (fun b6=>Tr.R ?_) fun b6=>Tr.R ?_)) fun b4=>Tr.B (Q':=fun _=>True) (Tr.F (by kernel_rfl) trivial) (fun(u13a0,_) hj13 qj13=>Tr.I (fun b5=>Tr.R ?_) fun b5=>Tr.R ?_)) fun b3=>Tr.B (Q':=fun _=>True) (Tr.F (by kernel_rfl) trivial) (fun(u14a0,_) hj14 qj14=>Tr.I (fun b4=>Tr.R ?_) fun b4=>Tr.R ?_)) fun b2=>Tr.B (Q':=fun _=>True) (Tr.F (by kernel_rfl) trivial) (fun(u15a0,_) hj15 qj15=>Tr.I (fun b3=>Tr.R ?_) fun b3=>Tr.R ?_)
  all_goals ((try simp only[Tr.nice,letK]at*)<;>(first|grind|(have hs:SO x0:=(by grind);have h7:c7≤(x0.data.length:Int)-x0.sent:=(by rw[hc7,s_l1Min_eq,wrap64 (by grind) (by grind)];split<;>omega);have h8:0≤c8∧c8≤(x0.data.length:Int)-x0.sent:=(by rw[hc8,s_l1Max_eq];have:=hs.2.2.2.2.1;split<;>omega);clear hc7 hc8 hc4 hc2 hc3 hc6 hc5;grind)))⟩
noncomputable def s_NextChunk_e:=entT st s_NextChunk_x s_NextChunk_o [] (ks:=[.st .sndr,.sc (.int .i64),.sc (.int .i64)]) s_NextChunk (fun v=>[(true,q_chun v.1),(false,[.c (.bool v.2)])]) Tryz.func268 trivial fun _=>by kernel_rfl
noncomputable def s_MssFor:FF (Conn×Unit) (Int):=⟨fun(x0,_)=>
  .ite (x0.opts.mss==0) (.ret 536)<|
  .val (s_l1Min.f (1460,x0.opts.mss,())) fun c1=>
  .val (s_l1Max.f (1,c1,())) fun c2=>
  .ret c2⟩
noncomputable def s_MssFor_e:=ent1 st Tryz.func269 [s_l1Min_e,s_l1Max_e] (ks:=[.st .conn]) s_MssFor (fun v=>[(false,[.c (.int .i64 v)])]) fun _=>by kernel_rfl
noncomputable def s_SentOff:FT (Sndr×Chun×Unit) (Sndr) (fun x=>sm_sndr x.1∧sm_chun x.2.1) (fun x v=>sm_sndr v∧(SO x.1→(x.2.1.text.length:Int)+x.1.sent≤x.1.data.length→x.1.finSent=false→(x.2.1.fin=true→x.1.fin=true∧x.1.done=false∧x.1.sent+x.2.1.text.length=x.1.data.length)→v={x.1 with sent:=x.1.sent+x.2.1.text.length,finSent:=x.2.1.fin})):=⟨fun(x0,x1,_)=>
  .ite x0.finSent (.cal s_SenderOk.c (x0,()) fun c1=>
   .ite (!c1) (.ret x0)<|
   .cal s_SenderOk.c (({x0 with sent:=(IntKind.wrap .i64 (x0.sent+(x1.text.length:Int))),finSent:=true}:Sndr),()) fun c2=>
   .ite (!c2) (.ret x0)<|
   .ite x1.fin (.ite x0.done (.ret x0)<|
    .ret ({x0 with sent:=(IntKind.wrap .i64 (x0.sent+(x1.text.length:Int))),finSent:=true}:Sndr))<|
   .ret ({x0 with sent:=(IntKind.wrap .i64 (x0.sent+(x1.text.length:Int))),finSent:=true}:Sndr))<|
  .cal s_SenderOk.c (x0,()) fun c3=>
  .ite (!c3) (.ret x0)<|
  .cal s_SenderOk.c (({x0 with sent:=(IntKind.wrap .i64 (x0.sent+(x1.text.length:Int))),finSent:=x1.fin}:Sndr),()) fun c4=>
  .ite (!c4) (.ret x0)<|
  .ite x1.fin (.ite x0.done (.ret x0)<|
   .ret ({x0 with sent:=(IntKind.wrap .i64 (x0.sent+(x1.text.length:Int))),finSent:=x1.fin}:Sndr))<|
  .ret ({x0 with sent:=(IntKind.wrap .i64 (x0.sent+(x1.text.length:Int))),finSent:=x1.fin}:Sndr),
 fun(x0,x1,_) hp=>by
  refine Tr.I (fun _=>Tr.C trivial fun _ _ _=>Tr.I (fun _=>Tr.R ?_) fun _=>Tr.C trivial fun _ _ _=>Tr.I (fun _=>Tr.R ?_) fun _=>Tr.I (fun _=>Tr.I (fun _=>Tr.R ?_) fun _=>Tr.R ?_) fun _=>Tr.R ?_) fun _=>Tr.C trivial fun _ _ _=>Tr.I (fun _=>Tr.R ?_) fun _=>Tr.C trivial fun _ _ _=>Tr.I (fun _=>Tr.R ?_) fun _=>Tr.I (fun _=>Tr.I (fun _=>Tr.R ?_) fun _=>Tr.R ?_) fun _=>Tr.R ?_
  all_goals (grind)⟩
noncomputable def s_SentOff_e:=ent0 st Tryz.func270 [s_SenderOk_e] (ks:=[.st .sndr,.st .chun]) s_SentOff (fun v=>[(true,q_sndr v)]) fun _=>by kernel_rfl
noncomputable def s_HwOf:FT (List Entr×Int×Unit) (Int×Bool) (fun x=>sS x.1) (fun _ _=>True):=⟨fun(x0,x1,_)=>
  .cal s_l15At.c (x0,x1,()) fun c1=>
  .ite (decide (c1<0)) (.ret (0,false))<|
  .grd ((decide (0≤c1))&&(decide (c1<(x0.length:Int))))<|
  .ret ((x0.getD c1.toNat (Ty.zero .entr)).hw,true),
 fun(x0,x1,_) hp=>by
  refine Tr.C ?_ fun _ _ _=>Tr.I (fun _=>Tr.R trivial) fun _=>Tr.G2 ?_ fun _=>Tr.R trivial
  all_goals (grind)⟩
noncomputable def s_HwOf_e:=ent0 st Tryz.func271 [s_l15At_e] (ks:=[.sc (.sl .entr),.sc (.int .i64)]) s_HwOf (fun v=>[(false,[.c (.int .i64 v.1)]),(false,[.c (.bool v.2)])]) fun _=>by kernel_rfl
noncomputable def s_OptionsText_o:List (Ent1 Tryz.prog):=[s_OptionsOk_e,s_PutWord_e]
def s_OptionsText_L0_h:Sh:=⟨[(3,false,[.str])],[]⟩
def s_OptionsText_J9_a:An:=⟨⟨[],[],false,0⟩,⟨[1,2,3],[],false,0⟩,⟨[],[]⟩,[(.normal,⟨[(1,false,[.ptr 0 0]),(2,false,[.str]),(3,false,[.str])],[.box [.st .opti []]]⟩)]⟩
def s_OptionsText_J18_a:An:=⟨⟨[],[],false,0⟩,⟨[1,2,3],[],false,0⟩,⟨[],[]⟩,[(.normal,⟨[(1,false,[.ptr 0 0]),(2,false,[.str]),(3,false,[.str])],[.box [.st .opti []]]⟩)]⟩
def s_OptionsText_J26_a:An:=⟨⟨[],[],false,0⟩,⟨[1,2,3],[],false,0⟩,⟨[],[]⟩,[(.normal,⟨[(1,false,[.ptr 0 0]),(2,false,[.str]),(3,false,[.str])],[.box [.st .opti []]]⟩)]⟩
def s_OptionsText_J30_a:An:=⟨⟨[],[],false,0⟩,⟨[2,3],[],false,0⟩,⟨[],[]⟩,[(.normal,⟨[(2,false,[.str]),(3,false,[.str])],[]⟩)]⟩
noncomputable def s_OptionsText_x:Fx:=⟨274,Tryz.f274,[(0,la ⟨[3],[],false,0⟩ ⟨[2,3],[],false,0⟩),(1000009,s_OptionsText_J9_a),(1000018,s_OptionsText_J18_a),(1000026,s_OptionsText_J26_a),(1000030,s_OptionsText_J30_a)],0⟩
noncomputable def s_OptionsText_L0_T (a:Bytes):Tr (Stp (Bytes) ((Bytes))):=
 .ite (((a.length:Int).tmod 4) != 0) (.grd (Nat.ble (a.length+1) maxStr)<|
  .ret (.next (a++[1])))<|
 .ret (.out a)
noncomputable def s_OptionsText_L0_d:s_OptionsText_L0_h.V→LW s_OptionsText_L0_h (Bytes) ((Bytes)):=fun(v0,_)=>⟨v0,fun a=>(a,()),s_OptionsText_L0_T,(4-v0.length%4)%4,fun _ k p=>k (.exit 0) (Sh.enc ⟨[(2,false,[.undef]),(3,false,[.str])],[]⟩ (p,()))⟩
theorem s_OptionsText_L0_s:LS Tryz.prog s_OptionsText_x [0] (leW 0 s_OptionsText_L0_h s_OptionsText_L0_d):=loopW st (orcOf_ok s_OptionsText_o) _ s_OptionsText_L0_d [] trivial (by kernel_rfl) (fun _=>by kernel_rfl) fun _ _ _ _ _=>by kernel_rfl
theorem s_OptionsText_L0_k {v0:Bytes}(h0:v0.length+(4-v0.length%4)%4≤20):(s_OptionsText_L0_d (v0,())).W (fun p=>p.length≤20):=
 LW.okW (a:=v0) (fun a=>a.length+(4-a.length%4)%4≤20) (fun a=>(4-a.length%4)%4) rfl h0 fun v0 hv=>by
  refine Tr.I (fun _=>Tr.Gb ?_ fun _=>Tr.Rn ?_) fun _=>Tr.Ro ?_
  all_goals (grind)
noncomputable def s_OptionsText:FT (Opti×Unit) (Bytes) (fun _=>True) (fun x v=>sS v∧v.length≤20):=⟨fun(x0,_)=>
  .cal s_OptionsOk.c (x0,()) fun c1=>
  .ite (!c1) (.ret [])<|
  .bnd (β:=Bytes×Bytes×Opti×Unit) (.ite (x0.mss != 0) (.cal s_PutWord.c (x0.mss,2,()) fun c2=>
    .grd (Nat.ble (2+c2.length) maxStr)<|
    .ret ([],([2,4]++c2),x0,()))<|
   .ret ([],[],x0,())) fun(u3a0,u3a1,u3a2,_)=>
  .bnd (β:=Bytes×Bytes×Opti×Unit) (.ite (decide (0≤u3a2.scale)) (.grd (Nat.ble (u3a1.length+2) maxStr)<|
    .cal s_PutWord.c (u3a2.scale,1,()) fun c4=>
    .grd (Nat.ble ((u3a1++[3,3]).length+c4.length) maxStr)<|
    .ret (u3a0,((u3a1++[3,3])++c4),u3a2,()))<|
   .ret (u3a0,u3a1,u3a2,())) fun(u5a0,u5a1,u5a2,_)=>
  .bnd (β:=Bytes×Bytes×Opti×Unit) (.ite u5a2.sack (.grd (Nat.ble (u5a1.length+2) maxStr)<|
    .ret (u5a0,(u5a1++[4,2]),u5a2,()))<|
   .ret (u5a0,u5a1,u5a2,())) fun(u6a0,u6a1,u6a2,_)=>
  .bnd (β:=Bytes×Bytes×Unit) (.ite u6a2.stamp (.grd (Nat.ble (u6a1.length+2) maxStr)<|
    .cal s_PutWord.c (u6a2.val,4,()) fun c7=>
    .grd (Nat.ble ((u6a1++[8,10]).length+c7.length) maxStr)<|
    .cal s_PutWord.c (u6a2.echo,4,()) fun c8=>
    .grd (Nat.ble (((u6a1++[8,10])++c7).length+c8.length) maxStr)<|
    .ret (u6a0,(((u6a1++[8,10])++c7)++c8),()))<|
   .ret (u6a0,u6a1,())) fun(_,u9a1,_)=>
  .lp (s_OptionsText_L0_d (u9a1,())).lp fun p10a0=>
  .ret p10a0,
 fun(x0,_) hp=>by
  refine Tr.C trivial fun c1 hc1 qc1=>Tr.I (fun b0=>Tr.R ?_) fun b0=>Tr.B (Q':=fun w=>sS w.1∧sS w.2.1∧w.2.1.length≤4) (Tr.I (fun b1=>Tr.C trivial fun c2 hc2 qc2=>Tr.Gb ?_ fun g2=>Tr.R ?_) fun b1=>Tr.R ?_) (fun(u3a0,u3a1,u3a2,_) hj3 qj3=>Tr.B (Q':=fun w=>sS w.1∧sS w.2.1∧w.2.1.length≤7) (Tr.I (fun b1=>Tr.Gb ?_ fun g2=>Tr.C trivial fun c4 hc4 qc4=>Tr.Gb ?_ fun g3=>Tr.R ?_) fun b1=>Tr.R ?_) (fun(u5a0,u5a1,u5a2,_) hj5 qj5=>Tr.B (Q':=fun w=>sS w.1∧sS w.2.1∧w.2.1.length≤9) (Tr.I (fun b1=>Tr.Gb ?_ fun g2=>Tr.R ?_) fun b1=>Tr.R ?_) (fun(u6a0,u6a1,u6a2,_) hj6 qj6=>Tr.B (Q':=fun w=>sS w.1∧sS w.2.1∧w.2.1.length≤19) (Tr.I (fun b1=>Tr.Gb ?_ fun g2=>Tr.C trivial fun c7 hc7 qc7=>Tr.Gb ?_ fun g3=>Tr.C trivial fun c8 hc8 qc8=>Tr.Gb ?_ fun g4=>Tr.R ?_) fun b1=>Tr.R ?_) (fun(u9a0,u9a1,_) hj9 qj9=>Tr.L (s_OptionsText_L0_k ?_) (fun a=>Empty.elim a) (fun p10a0 hp10=>Tr.R ?_)))))
  all_goals ((try simp only[s_OptionsText_L0_d,LW.lp,LW.cw,Cw.lp,Tr.nice,letK]at*)<;>grind)⟩
noncomputable def s_OptionsText_e:=entT st s_OptionsText_x s_OptionsText_o [(leW 0 s_OptionsText_L0_h s_OptionsText_L0_d)] (ks:=[.st .opti]) s_OptionsText (fun v=>[(false,[.c (.str v)])]) Tryz.func274 ⟨s_OptionsText_L0_s,trivial⟩ fun _=>by kernel_rfl
noncomputable def s_PseudoHead_o:List (Ent1 Tryz.prog):=[s_PutWord_e]
noncomputable def s_PseudoHead_x:Fx:=⟨275,Tryz.f275,[(3000004,rA 0 25)],0⟩
noncomputable def s_PseudoHead:FT (Int×Int×Int×Unit) (Bytes) (fun _=>True) (fun x v=>sS v∧v.length≤20):=⟨fun(x0,x1,x2,_)=>
  .cal s_PutWord.c (x0,4,()) fun c1=>
  .cal s_PutWord.c (x1,4,()) fun c2=>
  .cal s_PutWord.c (x2,2,()) fun c3=>
  .bnd (β:=Bool×Unit) (.ite (c1==[]) (.ret (true,()))<|
   .ite (c2==[]) (.ret (true,()))<|
   .ret ((c3==[]),())) fun(u4a0,_)=>
  .ite u4a0 (.ret [])<|
  .grd (Nat.ble (c1.length+c2.length) maxStr)<|
  .grd (Nat.ble ((c1++c2).length+2) maxStr)<|
  .grd (Nat.ble (((c1++c2)++[0,6]).length+c3.length) maxStr)<|
  .ret (((c1++c2)++[0,6])++c3),
 fun(x0,x1,x2,_) hp=>by
  refine Tr.C trivial fun c1 hc1 qc1=>Tr.C trivial fun c2 hc2 qc2=>Tr.C trivial fun c3 hc3 qc3=>Tr.B (Q':=fun _=>True) (Tr.F (by kernel_rfl) trivial) (fun(u4a0,_) hj4 qj4=>Tr.I (fun b0=>Tr.R ?_) fun b0=>Tr.Gb ?_ fun g1=>Tr.Gb ?_ fun g2=>Tr.Gb ?_ fun g3=>Tr.R ?_)
  all_goals ((try simp only[Tr.nice,letK]at*)<;>(first|(simp only[List.length_append,List.length_cons,List.length_nil,maxStr,sS]at*;omega)|grind))⟩
noncomputable def s_PseudoHead_e:=entT st s_PseudoHead_x s_PseudoHead_o [] (ks:=[.sc (.int .i64),.sc (.int .i64),.sc (.int .i64)]) s_PseudoHead (fun v=>[(false,[.c (.str v)])]) Tryz.func275 trivial fun _=>by kernel_rfl
noncomputable def s_SumOf:FT (Bytes×Unit) (Int) (fun x=>sS x.1) (fun _ _=>True):=⟨fun(x0,_)=>
  .cal s_WordSum.c (x0,()) fun c1=>
  .cal s_Folded.c (c1,()) fun c2=>
  .ret (IntKind.wrap .i64 (65535-c2)),
 fun(x0,_) hp=>by
  refine Tr.C ?_ fun _ _ _=>Tr.C ?_ fun _ _ _=>Tr.R trivial
  all_goals (grind)⟩
noncomputable def s_SumOf_e:=ent0 st Tryz.func276 [s_WordSum_e,s_Folded_e] (ks:=[.sc .str]) s_SumOf (fun v=>[(false,[.c (.int .i64 v)])]) fun _=>by kernel_rfl
noncomputable def s_Acked_o:List (Ent1 Tryz.prog):=[s_SeqDiff_e,s_SenderOk_e,s_l17Flown_e,s_l1In_e,s_SeqAdd_e]
def s_Acked_J32_a:An:=⟨⟨[],[],false,0⟩,⟨[2,4,5,6,7],[],false,0⟩,⟨[],[]⟩,[(.normal,⟨[(2,false,[.ptr 0 0]),(4,false,[.ptr 1 0]),(5,false,[.bool]),(6,false,[.int .i64]),(7,false,[.ptr 2 0])],[.box [.st .sndr []],.box [.st .sndr []],.box [.st .sndr []]]⟩)]⟩
noncomputable def s_Acked_x:Fx:=⟨296,Tryz.f296,[(1000032,s_Acked_J32_a),(3000002,rA 0 21)],0⟩
noncomputable def s_Acked:FT (Sndr×Int×Unit) (Sndr×Bool) (fun x=>sm_sndr x.1) (fun x v=>sm_sndr v.1):=⟨fun(x0,x1,_)=>
  .val (s_SeqDiff.f (x1,x0.una,())) fun c1=>
  .bnd (β:=Bool×Unit) (.cal s_SenderOk.c (x0,()) fun c2=>
   .ite (!c2) (.ret (true,()))<|
   .cal s_l17Flown.c (x0,()) fun c3=>
   .val (s_l1In.f (c1,0,c3,())) fun c4=>
   .ret ((!c4),())) fun(u5a0,_)=>
  .ite u5a0 (.ret (x0,false))<|
  .val (s_SeqAdd.f (x0.una,c1,())) fun c6=>
  .bnd (β:=Bool×Int×Sndr×Sndr×Sndr×Unit) (.ite (decide (x0.sent<c1)) (.ret (false,x0.sent,x0,(⟨0,[],0,false,false,false⟩:Sndr),({x0 with una:=c6,finSent:=false,done:=true}:Sndr),()))<|
   .ret (false,c1,x0,(⟨0,[],0,false,false,false⟩:Sndr),({x0 with una:=c6}:Sndr),())) fun(_,u7a1,u7a2,_,u7a4,_)=>
  .grd (((decide (0≤u7a1))&&(decide (u7a1≤(u7a2.data.length:Int))))&&(decide ((u7a2.data.length:Int)≤(u7a2.data.length:Int))))<|
  .ret (({u7a4 with data:=((u7a2.data.take ((u7a2.data.length:Int).toNat)).drop u7a1.toNat),sent:=(IntKind.wrap .i64 (u7a2.sent-u7a1))}:Sndr),true),
 fun(x0,x1,_) hp=>by
  refine Tr.V fun c1 hc1=>Tr.B (Q':=fun w=>(w.1=false→SO x0)∧(w.1=false→0≤c1∧c1≤x0.sent+1)) (Tr.C trivial fun c2 hc2 qc2=>Tr.I (fun b0=>Tr.R ?_) fun b0=>Tr.C ?_ fun c3 hc3 qc3=>Tr.V fun c4 hc4=>Tr.R ?_) (fun(u5a0,_) hj5 qj5=>Tr.I (fun b0=>Tr.R ?_) fun b0=>Tr.V fun c6 hc6=>Tr.B (Q':=fun w=>sm_sndr w.2.2.1∧sm_sndr w.2.2.2.1∧sm_sndr w.2.2.2.2.1∧0≤w.2.1∧w.2.1≤x0.data.length∧w.2.2.1=x0) (Tr.I (fun b1=>Tr.R ?_) fun b1=>Tr.R ?_) (fun(u7a0,u7a1,u7a2,u7a3,u7a4,_) hj7 qj7=>Tr.G3 ?_ fun g1=>Tr.R ?_))
  all_goals ((try simp only[Tr.nice,letK]at*)<;>grind)⟩
noncomputable def s_Acked_e:=entT st s_Acked_x s_Acked_o [] (ks:=[.st .sndr,.sc (.int .i64)]) s_Acked (fun v=>[(true,q_sndr v.1),(false,[.c (.bool v.2)])]) Tryz.func296 trivial fun _=>by kernel_rfl
noncomputable def s_Arrived_o:List (Ent1 Tryz.prog):=[s_l18Copy_e,s_ReceiverOk_e,s_WindowOf_e,s_l18Slots_e,s_SeqAdd_e,s_l4Rest_e,s_l18Free_e,s_l18Pieces_e]
def s_Arrived_L0_h:Sh:=⟨[(1,false,[.int .i64]),(2,false,[.str]),(3,false,[.bool]),(4,false,[.ptr 0 0]),(8,false,[.ptr 1 0]),(9,false,[.ptr 2 0]),(10,false,[.int .i64]),(11,false,[.own 3]),(12,false,[.int .i64])],[.box [.st .recv [.sl .arg]],.box [.st .recv [.nil .piec]],.box [.st .recv [.own 4]],.arr .i64 false true,.of false true]⟩
def s_Arrived_L1_h:Sh:=⟨[(4,false,[.ptr 0 0]),(8,false,[.ptr 1 0]),(9,false,[.ptr 2 0]),(11,false,[.own 3]),(15,false,[.int .i64]),(16,false,[.own 4])],[.box [.st .recv [.sl .arg]],.box [.st .recv [.nil .piec]],.box [.st .recv [.own 5]],.arr .i64 false true,.arr .u8 false true,.of false true]⟩
def s_Arrived_J95_a:An:=⟨⟨[],[],false,0⟩,⟨[4,8,9,11],[],false,0⟩,⟨[],[]⟩,[(.normal,⟨[(4,false,[.ptr 0 0]),(8,false,[.ptr 1 0]),(9,false,[.ptr 2 0]),(11,false,[.own 3])],[.box [.st .recv [.sl .arg]],.box [.st .recv [.nil .piec]],.box [.st .recv [.own 4]],.arr .i64 false true,.of false true]⟩)]⟩
def s_Arrived_J137_a:An:=⟨⟨[],[],false,0⟩,⟨[4,8,9],[],false,0⟩,⟨[],[]⟩,[(.normal,⟨[(4,false,[.ptr 0 0]),(8,false,[.ptr 1 0]),(9,false,[.ptr 2 0])],[.box [.st .recv [.sl .arg]],.box [.st .recv [.nil .piec]],.box [.st .recv [.own 3]],.of false true]⟩)]⟩
noncomputable def s_Arrived_x:Fx:=⟨298,Tryz.f298,[(0,la ⟨[1,2,3,4,8,9,10,11,12],[],false,0⟩ ⟨[1,2,3,4,8,9,10,11],[],false,0⟩),(2,la ⟨[4,8,9,11,15,16],[],false,0⟩ ⟨[4,8,9,11,15,16],[],false,0⟩),(1000095,s_Arrived_J95_a),(1000137,s_Arrived_J137_a),(3000002,rA 0 25),(3000010,rA 0 64),(3000013,rA 0 95)],0⟩
noncomputable def s_Arrived_L0_T (v0:Int)(v1:Bytes)(v3:Int)(v5:Recv)(v4:Int)(a:Recv×List Int):Tr (Stp (Recv×List Int) (Empty)):=
 .val (s_SeqAdd.f (v0,v4,())) fun c6=>
 .val (s_l4Rest.f ((IntKind.wrap .i64 (c6-v5.next)),())) fun c7=>
 .bnd (β:=Bool×Unit) (.ite (decide (c7<v3)) (.ite (decide (v5.fin<0)) (.grd ((decide (0≤c7))&&(decide (c7<(a.2.length:Int))))<|
    .ret ((decide ((a.2.getD c7.toNat 0)<0)),()))<|
   .ite (decide (c7<v5.fin)) (.grd ((decide (0≤c7))&&(decide (c7<(a.2.length:Int))))<|
    .ret ((decide ((a.2.getD c7.toNat 0)<0)),()))<|
   .ret (false,()))<|
  .ret (false,())) fun(u8a0,_)=>
 .ite u8a0 (.grd ((decide (0≤v4))&&(decide (v4<(v1.length:Int))))<|
  .grd ((decide (0≤c7))&&(decide (c7<(a.2.length:Int))))<|
  .ret (.next (({a.1 with held:=[]}:Recv),(a.2.set c7.toNat (IntKind.wrap .i64 (byteAt v1 v4.toNat))))))<|
 .ret (.next (({a.1 with held:=[]}:Recv),a.2))
noncomputable def s_Arrived_L0_d:s_Arrived_L0_h.V→LC s_Arrived_L0_h (Recv×List Int) (Empty) (Int×(Recv×List Int)):=fun(v0,v1,v2,v3,v4,v5,v6,v7,v8,_)=>⟨v4,(v6,v8),fun v4 a=>(v0,v1,v2,v3,v4,v5,a.1,v7,a.2,()),fun v4 _=>(decide (v4<(v1.length:Int))),s_Arrived_L0_T v0 v1 v3 v5,up,1,(Int.toNat ((v1.length:Int)-v4)),(fun p=>Empty.elim p),fun i a=>(i,a),fun _ k x=>k (.exit 0) (Sh.enc ⟨[(1,false,[.int .i64]),(2,false,[.str]),(3,false,[.bool]),(4,false,[.ptr 0 0]),(8,false,[.ptr 1 0]),(9,false,[.ptr 2 0]),(10,false,[.int .i64]),(11,false,[.own 3])],[.box [.st .recv [.sl .arg]],.box [.st .recv [.nil .piec]],.box [.st .recv [.own 4]],.arr .i64 false true,.of false true]⟩ (v0,v1,v2,v3,v5,({x.2.1 with held:=[]}:Recv),v7,x.2.2,()))⟩
theorem s_Arrived_L0_s:LS Tryz.prog s_Arrived_x [0] (leC 0 s_Arrived_L0_h s_Arrived_L0_d):=loopC st (orcOf_ok s_Arrived_o) _ s_Arrived_L0_d [] trivial (by kernel_rfl) (fun _=>by kernel_rfl) fun _ _ _ _ _ _=>by kernel_rfl
theorem s_Arrived_L0_k {v0 v3 v4:Int}{v1:Bytes}{v2:Bool}{v5 v6 v7:Recv}{v8:List Int}(h0:0≤v4)(h1:(v1.length:Int)≤4611686018427387904)(h2:v3≤32)(h3:sS v1)(h4:sm_recv v5)(h5:sS v8)(h6:sm_recv v6∧v8.length=v8.length∧v8.length=33):(s_Arrived_L0_d (v0,v1,v2,v3,v4,v5,v6,v7,v8,())).U (v1.length:Int) (fun v4 a=>sm_recv a.1∧a.2.length=v8.length∧a.2.length=33) (fun _=>True):=
 LC.okU (i:=v4) (a:=(v6,v8)) (fun _ _=>rfl) (fun _=>rfl) rfl h0 h1 h6 fun v4 (v6,v8) hj hk hv=>by
  refine Tr.V fun _ _=>Tr.V fun _ _=>Tr.B (Q':=fun _=>True) (Tr.I (fun _=>Tr.I (fun _=>Tr.G2 ?_ fun _=>Tr.R trivial) fun _=>Tr.I (fun _=>Tr.G2 ?_ fun _=>Tr.R trivial) fun _=>Tr.R trivial) fun _=>Tr.R trivial) (fun(u8a0,_) _ _=>Tr.I (fun _=>Tr.G2 ?_ fun _=>Tr.G2 ?_ fun _=>Tr.Rn ?_) fun _=>Tr.Rn ?_)
  all_goals ((try simp only[Tr.nice,letK]at*)<;>grind)
noncomputable def s_Arrived_L1_T (v4:List Int)(v0:Int)(a:Recv×List Int):Tr (Stp (Recv×List Int) ((Int×Recv×List Int))):=
 .grd ((decide (0≤v0))&&(decide (v0<(v4.length:Int))))<|
 .ite (decide (0≤(v4.getD v0.toNat 0))) (.grd ((decide (0≤v0))&&(decide (v0<(v4.length:Int))))<|
  .grd (Nat.ble ((2*(a.2.length+1)+1024)*1) maxSl)<|
  .ret (.next (({a.1 with held:=[]}:Recv),(a.2++[(IntKind.wrap .u8 (v4.getD v0.toNat 0))]))))<|
 .ret (.out (v0,({a.1 with held:=[]}:Recv),a.2))
noncomputable def s_Arrived_L1_d:s_Arrived_L1_h.V→LC s_Arrived_L1_h (Recv×List Int) ((Int×Recv×List Int)) (((Int×Recv×List Int))⊕(Int×(Recv×List Int))):=fun(v0,v1,v2,v3,v4,v5,_)=>⟨v0,(v2,v5),fun v0 a=>(v0,v1,a.1,v3,v4,a.2,()),fun v0 _=>(decide (v0<(v4.length:Int))),s_Arrived_L1_T v4,up,1,(Int.toNat ((v4.length:Int)-v0)),.inl,fun i a=> .inr (i,a),fun _ k w=>Sum.elim (fun p=>k (.exit 2) (Sh.enc ⟨[(4,false,[.ptr 0 0]),(8,false,[.ptr 1 0]),(9,false,[.ptr 2 0]),(11,false,[.own 3]),(15,false,[.int .i64]),(16,false,[.own 4])],[.box [.st .recv [.sl .arg]],.box [.st .recv [.nil .piec]],.box [.st .recv [.own 5]],.arr .i64 false true,.arr .u8 false true,.of false true]⟩ (p.1,v1,p.2.1,v3,v4,p.2.2,()))) (fun x=>k (.exit 2) (Sh.enc ⟨[(4,false,[.ptr 0 0]),(8,false,[.ptr 1 0]),(9,false,[.ptr 2 0]),(11,false,[.own 3]),(15,false,[.int .i64]),(16,false,[.own 4])],[.box [.st .recv [.sl .arg]],.box [.st .recv [.nil .piec]],.box [.st .recv [.own 5]],.arr .i64 false true,.arr .u8 false true,.of false true]⟩ (x.1,v1,({x.2.1 with held:=[]}:Recv),v3,v4,x.2.2,()))) w⟩
theorem s_Arrived_L1_s:LS Tryz.prog s_Arrived_x [1] (leC 2 s_Arrived_L1_h s_Arrived_L1_d):=loopC st (orcOf_ok s_Arrived_o) _ s_Arrived_L1_d [] trivial (by kernel_rfl) (fun _=>by kernel_rfl) fun _ _ _ _ _ _=>by kernel_rfl
theorem s_Arrived_L1_k {v0:Int}{v1 v2 v3:Recv}{v4 v5:List Int}(h0:0≤v0)(h1:(v4.length:Int)≤4611686018427387904)(h2:sS v4)(h3:sm_recv v2∧(v5.length:Int)=v0):(s_Arrived_L1_d (v0,v1,v2,v3,v4,v5,())).U (v4.length:Int) (fun v0 a=>sm_recv a.1∧(a.2.length:Int)=v0) (fun p=>sm_recv p.2.1∧sS p.2.2∧v0≤p.1∧p.1<(v4.length:Int)∧p.2.2.length≤v4.length):=
 LC.okU (i:=v0) (a:=(v2,v5)) (fun _ _=>rfl) (fun _=>rfl) rfl h0 h1 h3 fun v0 (v2,v5) hj hk hv=>by
  refine Tr.G2 ?_ fun _=>Tr.I (fun _=>Tr.G2 ?_ fun _=>Tr.Gb ?_ fun _=>Tr.Rn ?_) fun _=>Tr.Ro ?_
  all_goals (grind)
noncomputable def s_Arrived:FT (Recv×Int×Bytes×Bool×Unit) (Recv) (fun x=>sm_recv x.1∧sS x.2.2.1) (fun x v=>sm_recv v∧(v.held.length:Int)≤max x.1.held.length 3):=⟨fun(x0,x1,x2,x3,_)=>
  .cal s_l18Copy.c (x0,()) fun c1=>
  .bnd (β:=Bool×Unit) (.cal s_ReceiverOk.c (x0,()) fun c2=>
   .ite (!c2) (.ret (true,()))<|
   .ret (x0.done,())) fun(u3a0,_)=>
  .ite u3a0 (.ret c1)<|
  .cal s_WindowOf.c (x0,()) fun c4=>
  .cal s_l18Slots.c (x0,()) fun c5=>
  .lp (s_Arrived_L0_d (x1,x2,x3,c4,0,x0,(⟨0,[],[],0,false⟩:Recv),c1,c5,())).lp fun(_,a9_0,a9_1)=>
  .val (s_SeqAdd.f (x1,(x2.length:Int),())) fun c10=>
  .val (s_l4Rest.f ((IntKind.wrap .i64 (c10-x0.next)),())) fun c11=>
  .bnd (β:=Bool×Unit) (.ite x3 (.ite (decide (x0.fin<0)) (.ite (decide (c11≤c4)) (.cal s_l18Free.c (a9_1,c11,()) fun c12=>
      .ret (c12,()))<|
     .ret (false,()))<|
    .ret (false,()))<|
   .ret (false,())) fun(u13a0,_)=>
  .bnd (β:=WT s_Arrived_J95_a.es) (.ite u13a0 (.ret (x0,({({a9_0 with held:=[]}:Recv)with held:=[]}:Recv),({c1 with fin:=c11}:Recv),a9_1,()))<|
   .ret (x0,({({a9_0 with held:=[]}:Recv)with held:=[]}:Recv),c1,a9_1,())) fun(u14a0,u14a1,u14a2,u14a3,_)=>
  .lp (s_Arrived_L1_d (0,u14a0,({u14a1 with held:=[]}:Recv),u14a2,u14a3,[],())).lp fun w15=> .sum w15 (fun(p15a0,p15a1,p15a2)=>
  .grd (Nat.ble (u14a0.data.length+(toBytes p15a2).length) maxStr)<|
  .val (s_SeqAdd.f (u14a0.next,p15a0,())) fun c16=>
  .cal s_l18Pieces.c (u14a3,p15a0,()) fun c17=>
  .bnd (β:=WT s_Arrived_J137_a.es) (.ite (decide (0≤u14a2.fin)) (.ret (u14a0,({p15a1 with held:=[]}:Recv),(⟨c16,(u14a0.data++(toBytes p15a2)),c17,(IntKind.wrap .i64 (u14a2.fin-p15a0)),u14a2.done⟩:Recv),()))<|
   .ret (u14a0,({p15a1 with held:=[]}:Recv),(⟨c16,(u14a0.data++(toBytes p15a2)),c17,u14a2.fin,u14a2.done⟩:Recv),())) fun(u18a0,_,u18a2,_)=>
  .ite (u18a2.fin==0) (.val (s_SeqAdd.f (u18a2.next,1,())) fun c19=>
   .ite (decide (3<(u18a2.held.length:Int))) (.cal s_l18Copy.c (u18a0,()) fun c20=>
    .ret c20)<|
   .ret (⟨c19,u18a2.data,u18a2.held,(-1),true⟩:Recv))<|
  .ite (decide (3<(u18a2.held.length:Int))) (.cal s_l18Copy.c (u18a0,()) fun c21=>
   .ret c21)<|
  .ret u18a2)<|
  fun(n15,a15_0,a15_1)=>
  .grd (Nat.ble (u14a0.data.length+(toBytes a15_1).length) maxStr)<|
  .val (s_SeqAdd.f (u14a0.next,n15,())) fun c22=>
  .cal s_l18Pieces.c (u14a3,n15,()) fun c23=>
  .bnd (β:=WT s_Arrived_J137_a.es) (.ite (decide (0≤u14a2.fin)) (.ret (u14a0,({({a15_0 with held:=[]}:Recv)with held:=[]}:Recv),(⟨c22,(u14a0.data++(toBytes a15_1)),c23,(IntKind.wrap .i64 (u14a2.fin-n15)),u14a2.done⟩:Recv),()))<|
   .ret (u14a0,({({a15_0 with held:=[]}:Recv)with held:=[]}:Recv),(⟨c22,(u14a0.data++(toBytes a15_1)),c23,u14a2.fin,u14a2.done⟩:Recv),())) fun(u24a0,_,u24a2,_)=>
  .ite (u24a2.fin==0) (.val (s_SeqAdd.f (u24a2.next,1,())) fun c25=>
   .ite (decide (3<(u24a2.held.length:Int))) (.cal s_l18Copy.c (u24a0,()) fun c26=>
    .ret c26)<|
   .ret (⟨c25,u24a2.data,u24a2.held,(-1),true⟩:Recv))<|
  .ite (decide (3<(u24a2.held.length:Int))) (.cal s_l18Copy.c (u24a0,()) fun c27=>
   .ret c27)<|
  .ret u24a2,
 fun(x0,x1,x2,x3,_) hp=>by
  refine Tr.C ?_ fun c1 hc1 qc1=>Tr.B (Q':=fun w=>(w.1=false→RO x0)) (Tr.C ?_ fun c2 hc2 qc2=>Tr.I (fun b0=>Tr.R ?_) fun b0=>Tr.R ?_) (fun(u3a0,_) hj3 qj3=>Tr.I (fun b0=>Tr.R ?_) fun b0=>Tr.C ?_ fun c4 hc4 qc4=>Tr.C ?_ fun c5 hc5 qc5=>Tr.L (s_Arrived_L0_k ?_ ?_ ?_ ?_ ?_ ?_ ?_) (fun(a9_0,a9_1) i9=>Tr.V fun c10 hc10=>Tr.V fun c11 hc11=>Tr.B (Q':=fun _=>True) (Tr.I (fun b1=>Tr.I (fun b2=>Tr.I (fun b3=>Tr.C ?_ fun c12 hc12 qc12=>Tr.R trivial) fun b3=>Tr.R trivial) fun b2=>Tr.R trivial) fun b1=>Tr.R trivial) (fun(u13a0,_) hj13 qj13=>Tr.B (Q':=fun w=>sm_recv w.1∧sm_recv w.2.1∧sm_recv w.2.2.1∧sS w.2.2.2.1∧w.1=x0∧w.2.2.2.1.length=33∧w.1.data.length≤32) (Tr.I (fun b1=>Tr.R ?_) fun b1=>Tr.R ?_) (fun(u14a0,u14a1,u14a2,u14a3,_) hj14 qj14=>Tr.L (s_Arrived_L1_k ?_ ?_ ?_ ?_) (fun(a15_0,a15_1) i15=>Tr.Sr (Tr.Gb ?_ fun g1=>Tr.V fun c22 hc22=>Tr.C ?_ fun c23 hc23 qc23=>Tr.B (Q':=fun w=>sm_recv w.1∧sm_recv w.2.1∧sm_recv w.2.2.1∧w.1=x0) (Tr.I (fun b2=>Tr.R ?_) fun b2=>Tr.R ?_) (fun(u24a0,u24a1,u24a2,_) hj24 qj24=>Tr.I (fun b2=>Tr.V fun c25 hc25=>Tr.I (fun b3=>Tr.C ?_ fun c26 hc26 qc26=>Tr.R ?_) fun b3=>Tr.R ?_) fun b2=>Tr.I (fun b3=>Tr.C ?_ fun c27 hc27 qc27=>Tr.R ?_) fun b3=>Tr.R ?_))) (fun(p15a0,p15a1,p15a2) hp15=>Tr.Sl (Tr.Gb ?_ fun g1=>Tr.V fun c16 hc16=>Tr.C ?_ fun c17 hc17 qc17=>Tr.B (Q':=fun w=>sm_recv w.1∧sm_recv w.2.1∧sm_recv w.2.2.1∧w.1=x0) (Tr.I (fun b2=>Tr.R ?_) fun b2=>Tr.R ?_) (fun(u18a0,u18a1,u18a2,_) hj18 qj18=>Tr.I (fun b2=>Tr.V fun c19 hc19=>Tr.I (fun b3=>Tr.C ?_ fun c20 hc20 qc20=>Tr.R ?_) fun b3=>Tr.R ?_) fun b2=>Tr.I (fun b3=>Tr.C ?_ fun c21 hc21 qc21=>Tr.R ?_) fun b3=>Tr.R ?_)))))) (fun p=>Empty.elim p))
  all_goals ((try simp only[s_Arrived_L0_d,s_Arrived_L1_d,LC.lp,LC.ct,Ct.lp,Tr.nice,letK]at*)<;>grind)⟩
noncomputable def s_Arrived_e:=entT st s_Arrived_x s_Arrived_o [(leC 0 s_Arrived_L0_h s_Arrived_L0_d),(leC 2 s_Arrived_L1_h s_Arrived_L1_d)] (ks:=[.st .recv,.sc (.int .i64),.sc .str,.sc .bool]) s_Arrived (fun v=>[(true,q_recv (.o true) v)]) Tryz.func298 ⟨s_Arrived_L0_s,s_Arrived_L1_s,trivial⟩ fun _=>by kernel_rfl
noncomputable def i_PacketOk:FT (Pack×Unit) (Bool) (fun _=>True) (fun x v=>(v=true→x.1.body.length≤1480)):=⟨fun(x0,_)=>
  .cal i_WordOk.c (x0.src,32,()) fun c1=>
  .ite c1 (.cal i_WordOk.c (x0.dst,32,()) fun c2=>
   .ite c2 (.val (i_within.f (x0.ttl,1,255,())) fun c3=>
    .ite c3 (.cal i_WordOk.c (x0.proto,8,()) fun c4=>
     .ite c4 (.cal i_WordOk.c (x0.id,16,()) fun c5=>
      .ite c5 (.ret (decide ((x0.body.length:Int)≤1480)))<|
      .ret false)<|
     .ret false)<|
    .ret false)<|
   .ret false)<|
  .ret false,
 fun(x0,_) hp=>by
  refine Tr.C trivial fun _ _ _=>Tr.I (fun _=>Tr.C trivial fun _ _ _=>Tr.I (fun _=>Tr.V fun _ _=>Tr.I (fun _=>Tr.C trivial fun _ _ _=>Tr.I (fun _=>Tr.C trivial fun _ _ _=>Tr.I (fun _=>Tr.R ?_) fun _=>Tr.R ?_) fun _=>Tr.R ?_) fun _=>Tr.R ?_) fun _=>Tr.R ?_) fun _=>Tr.R ?_
  all_goals (grind)⟩
noncomputable def i_PacketOk_e:=ent0 st Tryz.func312 [i_WordOk_e,i_within_e] (ks:=[.st .pack]) i_PacketOk (fun v=>[(false,[.c (.bool v)])]) fun _=>by kernel_rfl
noncomputable def i_FrameOk:FT (Fram×Unit) (Bool) (fun _=>True) (fun x v=>(v=true→x.1.body.length≤1586)):=⟨fun(x0,_)=>
  .cal i_WordOk.c (x0.dst,48,()) fun c1=>
  .ite c1 (.cal i_WordOk.c (x0.src,48,()) fun c2=>
   .ite c2 (.val (i_within.f (x0.type,1536,65535,())) fun c3=>
    .ite c3 (.ret (decide ((x0.body.length:Int)≤1586)))<|
    .ret false)<|
   .ret false)<|
  .ret false,
 fun(x0,_) hp=>by
  refine Tr.C trivial fun _ _ _=>Tr.I (fun _=>Tr.C trivial fun _ _ _=>Tr.I (fun _=>Tr.V fun _ _=>Tr.I (fun _=>Tr.R ?_) fun _=>Tr.R ?_) fun _=>Tr.R ?_) fun _=>Tr.R ?_
  all_goals (grind)⟩
noncomputable def i_FrameOk_e:=ent0 st Tryz.func313 [i_WordOk_e,i_within_e] (ks:=[.st .fram]) i_FrameOk (fun v=>[(false,[.c (.bool v)])]) fun _=>by kernel_rfl
noncomputable def s_PacketOk:FT (Pack×Unit) (Bool) (fun _=>True) (fun x v=>(v=true→x.1.body.length≤1480)):=⟨fun(x0,_)=>
  .cal s_WordOk.c (x0.src,32,()) fun c1=>
  .ite c1 (.cal s_WordOk.c (x0.dst,32,()) fun c2=>
   .ite c2 (.val (s_l1In.f (x0.ttl,1,255,())) fun c3=>
    .ite c3 (.cal s_WordOk.c (x0.proto,8,()) fun c4=>
     .ite c4 (.cal s_WordOk.c (x0.id,16,()) fun c5=>
      .ite c5 (.ret (decide ((x0.body.length:Int)≤1480)))<|
      .ret false)<|
     .ret false)<|
    .ret false)<|
   .ret false)<|
  .ret false,
 fun(x0,_) hp=>by
  refine Tr.C trivial fun _ _ _=>Tr.I (fun _=>Tr.C trivial fun _ _ _=>Tr.I (fun _=>Tr.V fun _ _=>Tr.I (fun _=>Tr.C trivial fun _ _ _=>Tr.I (fun _=>Tr.C trivial fun _ _ _=>Tr.I (fun _=>Tr.R ?_) fun _=>Tr.R ?_) fun _=>Tr.R ?_) fun _=>Tr.R ?_) fun _=>Tr.R ?_) fun _=>Tr.R ?_
  all_goals (grind)⟩
noncomputable def s_PacketOk_e:=ent0 st Tryz.func314 [s_WordOk_e,s_l1In_e] (ks:=[.st .pack]) s_PacketOk (fun v=>[(false,[.c (.bool v)])]) fun _=>by kernel_rfl
noncomputable def s_FrameOk:FT (Fram×Unit) (Bool) (fun _=>True) (fun x v=>(v=true→x.1.body.length≤1586)):=⟨fun(x0,_)=>
  .cal s_WordOk.c (x0.dst,48,()) fun c1=>
  .ite c1 (.cal s_WordOk.c (x0.src,48,()) fun c2=>
   .ite c2 (.val (s_l1In.f (x0.type,1536,65535,())) fun c3=>
    .ite c3 (.ret (decide ((x0.body.length:Int)≤1586)))<|
    .ret false)<|
   .ret false)<|
  .ret false,
 fun(x0,_) hp=>by
  refine Tr.C trivial fun _ _ _=>Tr.I (fun _=>Tr.C trivial fun _ _ _=>Tr.I (fun _=>Tr.V fun _ _=>Tr.I (fun _=>Tr.R ?_) fun _=>Tr.R ?_) fun _=>Tr.R ?_) fun _=>Tr.R ?_
  all_goals (grind)⟩
noncomputable def s_FrameOk_e:=ent0 st Tryz.func315 [s_WordOk_e,s_l1In_e] (ks:=[.st .fram]) s_FrameOk (fun v=>[(false,[.c (.bool v)])]) fun _=>by kernel_rfl
noncomputable def s_SipRound:FT (Sipr×Unit) (Sipr) (fun _=>True) (fun _ _=>True):=⟨fun(x0,_)=>
  .cal s_l10Turn.c (x0.b,13,()) fun c1=>
  .cal s_l10Turn.c ((IntKind.wrap .u64 (x0.a+x0.b)),32,()) fun c2=>
  .cal s_l10Turn.c (x0.d,16,()) fun c3=>
  .val (IntKind.wrap .u64 (c2+(bits .xor .u64 c3 (IntKind.wrap .u64 (x0.c+x0.d))))) fun e4=>
  .cal s_l10Turn.c ((bits .xor .u64 c3 (IntKind.wrap .u64 (x0.c+x0.d))),21,()) fun c5=>
  .val (IntKind.wrap .u64 ((IntKind.wrap .u64 (x0.c+x0.d))+(bits .xor .u64 c1 (IntKind.wrap .u64 (x0.a+x0.b))))) fun e6=>
  .cal s_l10Turn.c ((bits .xor .u64 c1 (IntKind.wrap .u64 (x0.a+x0.b))),17,()) fun c7=>
  .cal s_l10Turn.c (e6,32,()) fun c8=>
  .ret (⟨e4,(bits .xor .u64 c7 e6),c8,(bits .xor .u64 c5 e4)⟩:Sipr),
 fun(x0,_) hp=>by
  refine Tr.C ?_ fun _ _ _=>Tr.C ?_ fun _ _ _=>Tr.C ?_ fun _ _ _=>Tr.V fun _ _=>Tr.C ?_ fun _ _ _=>Tr.V fun _ _=>Tr.C ?_ fun _ _ _=>Tr.C ?_ fun _ _ _=>Tr.R trivial
  all_goals (grind)⟩
noncomputable def s_SipRound_e:=ent0 st Tryz.func335 [s_l10Turn_e] (ks:=[.st .sipr]) s_SipRound (fun v=>[(true,q_sipr v)]) fun _=>by kernel_rfl
noncomputable def s_Queued_o:List (Ent1 Tryz.prog):=[s_SenderOk_e,s_l1Min_e]
noncomputable def s_Queued_x:Fx:=⟨344,Tryz.f344,[(3000001,rA 0 13)],0⟩
noncomputable def s_Queued:FT (Sndr×Bytes×Unit) (Sndr×Int) (fun x=>sm_sndr x.1∧sS x.2.1) (fun x v=>sm_sndr v.1):=⟨fun(x0,x1,_)=>
  .bnd (β:=Bool×Unit) (.cal s_SenderOk.c (x0,()) fun c1=>
   .ite (!c1) (.ret (true,()))<|
   .ret (x0.fin,())) fun(u2a0,_)=>
  .ite u2a0 (.ret (x0,0))<|
  .val (s_l1Min.f ((x1.length:Int),(IntKind.wrap .i64 (48-(x0.data.length:Int))),())) fun c3=>
  .grd ((decide (0≤c3))&&(decide (c3≤(x1.length:Int))))<|
  .grd (Nat.ble (x0.data.length+((x1.take c3.toNat).drop 0).length) maxStr)<|
  .ret (({x0 with data:=(x0.data++((x1.take c3.toNat).drop 0))}:Sndr),c3),
 fun(x0,x1,_) hp=>by
  refine Tr.B (Q':=fun w=>(w.1=false→SO x0)) (Tr.C trivial fun _ _ _=>Tr.I (fun _=>Tr.R ?_) fun _=>Tr.R ?_) (fun(u2a0,_) _ _=>Tr.I (fun _=>Tr.R ?_) fun _=>Tr.V fun _ _=>Tr.G2 ?_ fun _=>Tr.Gb ?_ fun _=>Tr.R ?_)
  all_goals ((try simp only[Tr.nice,letK]at*)<;>grind)⟩
noncomputable def s_Queued_e:=entT st s_Queued_x s_Queued_o [] (ks:=[.st .sndr,.sc .str]) s_Queued (fun v=>[(true,q_sndr v.1),(false,[.c (.int .i64 v.2)])]) Tryz.func344 trivial fun _=>by kernel_rfl
noncomputable def s_TakenIn:FT (Recv×Int×Unit) (Recv×Bytes) (fun x=>sm_recv x.1) (fun x v=>sm_recv v.1∧sS v.2∧v.1.held.length=x.1.held.length):=⟨fun(x0,x1,_)=>
  .cal s_l18Copy.c (x0,()) fun c1=>
  .cal s_ReceiverOk.c (x0,()) fun c2=>
  .ite (!c2) (.ret (c1,[]))<|
  .val (s_l1Min.f (x1,(x0.data.length:Int),())) fun c3=>
  .val (s_l1Max.f (0,c3,())) fun c4=>
  .grd (((decide (0≤c4))&&(decide (c4≤(x0.data.length:Int))))&&(decide ((x0.data.length:Int)≤(x0.data.length:Int))))<|
  .grd ((decide (0≤c4))&&(decide (c4≤(x0.data.length:Int))))<|
  .ret (({c1 with data:=((x0.data.take ((x0.data.length:Int).toNat)).drop c4.toNat)}:Recv),((x0.data.take c4.toNat).drop 0)),
 fun(x0,x1,_) hp=>by
  refine Tr.C ?_ fun _ _ _=>Tr.C ?_ fun _ _ _=>Tr.I (fun _=>Tr.R ?_) fun _=>Tr.V fun _ _=>Tr.V fun _ _=>Tr.G3 ?_ fun _=>Tr.G2 ?_ fun _=>Tr.R ?_
  all_goals (grind)⟩
noncomputable def s_TakenIn_e:=ent0 st Tryz.func345 [s_l18Copy_e,s_ReceiverOk_e,s_l1Min_e,s_l1Max_e] (ks:=[.st .recv,.sc (.int .i64)]) s_TakenIn (fun v=>[(true,q_recv (.o true) v.1),(false,[.c (.str v.2)])]) fun _=>by kernel_rfl
noncomputable def s_SameDoor:FT (Door×Door×Unit) (Bool) (fun x=>sm_door x.1∧sm_door x.2.1) (fun _ _=>True):=⟨fun(x0,x1,_)=>
  .ite (x0.port==x1.port) (.ite (x0.clock==x1.clock) (.cal s_SameKeys.c (x0.keys,x1.keys,()) fun c1=>
    .ite c1 (.ite ((x0.limits.halves==x1.limits.halves)&&((x0.limits.waiting==x1.limits.waiting)&&((x0.limits.conns==x1.limits.conns)&&((x0.limits.chal==x1.limits.chal)&&true)))) (.cal s_SameHalves.c (x0.halves,x1.halves,()) fun c2=>
      .ite c2 (.cal s_SameTable.c (x0.table,x1.table,()) fun c3=>
       .ite c3 (.ret (x0.chal==x1.chal))<|
       .ret false)<|
      .ret false)<|
     .ret false)<|
    .ret false)<|
   .ret false)<|
  .ret false,
 fun(x0,x1,_) hp=>by
  refine Tr.I (fun _=>Tr.I (fun _=>Tr.C ?_ fun _ _ _=>Tr.I (fun _=>Tr.I (fun _=>Tr.C ?_ fun _ _ _=>Tr.I (fun _=>Tr.C ?_ fun _ _ _=>Tr.F (by kernel_rfl) trivial) fun _=>Tr.R trivial) fun _=>Tr.R trivial) fun _=>Tr.R trivial) fun _=>Tr.R trivial) fun _=>Tr.R trivial
  all_goals (grind)⟩
noncomputable def s_SameDoor_e:=ent0 st Tryz.func13 [s_SameKeys_e,s_SameHalves_e,s_SameTable_e] (ks:=[.st .door,.st .door]) s_SameDoor (fun v=>[(false,[.c (.bool v)])]) fun _=>by kernel_rfl
noncomputable def s_SegmentOk:FT (Segm×Unit) (Bool) (fun _=>True) (fun x v=>(v=true→x.1.body.length≤1420)):=⟨fun(x0,_)=>
  .cal s_WordOk.c (x0.from_,16,()) fun c1=>
  .ite c1 (.cal s_WordOk.c (x0.to,16,()) fun c2=>
   .ite c2 (.cal s_WordOk.c (x0.window,16,()) fun c3=>
    .ite c3 (.cal s_WordOk.c (x0.seq,32,()) fun c4=>
     .ite c4 (.cal s_WordOk.c (x0.ack,32,()) fun c5=>
      .ite c5 (.cal s_WordOk.c (x0.flags,6,()) fun c6=>
       .ite c6 (.cal s_OptionsOk.c (x0.opts,()) fun c7=>
        .ite c7 (.ret (decide ((x0.body.length:Int)≤1420)))<|
        .ret false)<|
       .ret false)<|
      .ret false)<|
     .ret false)<|
    .ret false)<|
   .ret false)<|
  .ret false,
 fun(x0,_) hp=>by
  refine Tr.C trivial fun _ _ _=>Tr.I (fun _=>Tr.C trivial fun _ _ _=>Tr.I (fun _=>Tr.C trivial fun _ _ _=>Tr.I (fun _=>Tr.C trivial fun _ _ _=>Tr.I (fun _=>Tr.C trivial fun _ _ _=>Tr.I (fun _=>Tr.C trivial fun _ _ _=>Tr.I (fun _=>Tr.C trivial fun _ _ _=>Tr.I (fun _=>Tr.R ?_) fun _=>Tr.R ?_) fun _=>Tr.R ?_) fun _=>Tr.R ?_) fun _=>Tr.R ?_) fun _=>Tr.R ?_) fun _=>Tr.R ?_) fun _=>Tr.R ?_
  all_goals (grind)⟩
noncomputable def s_SegmentOk_e:=ent0 st Tryz.func25 [s_WordOk_e,s_OptionsOk_e] (ks:=[.st .segm]) s_SegmentOk (fun v=>[(false,[.c (.bool v)])]) fun _=>by kernel_rfl
noncomputable def s_SameStack:FT (Stac×Stac×Unit) (Bool) (fun x=>sm_stac x.1∧sm_stac x.2.1) (fun _ _=>True):=⟨fun(x0,x1,_)=>
  .cal s_SameLink.c (x0.link,x1.link,()) fun c1=>
  .ite c1 (.cal s_SameDoor.c (x0.door,x1.door,()) fun c2=>
   .ret c2)<|
  .ret false,
 fun(x0,x1,_) hp=>by
  refine Tr.C ?_ fun _ _ _=>Tr.I (fun _=>Tr.C ?_ fun _ _ _=>Tr.R trivial) fun _=>Tr.R trivial
  all_goals (grind)⟩
noncomputable def s_SameStack_e:=ent0 st Tryz.func33 [s_SameLink_e,s_SameDoor_e] (ks:=[.st .stac,.st .stac]) s_SameStack (fun v=>[(false,[.c (.bool v)])]) fun _=>by kernel_rfl
noncomputable def i_TupleOk:FT (Tupl×Unit) (Bool) (fun _=>True) (fun _ _=>True):=⟨fun(x0,_)=>
  .cal i_WordOk.c (x0.ip,32,()) fun c1=>
  .ite c1 (.cal i_WordOk.c (x0.port,16,()) fun c2=>
   .ite c2 (.cal i_WordOk.c (x0.my,16,()) fun c3=>
    .ret c3)<|
   .ret false)<|
  .ret false,
 fun(x0,_) hp=>by
  refine Tr.C trivial fun _ _ _=>Tr.I (fun _=>Tr.C trivial fun _ _ _=>Tr.I (fun _=>Tr.C trivial fun _ _ _=>Tr.R trivial) fun _=>Tr.R trivial) fun _=>Tr.R trivial⟩
noncomputable def i_TupleOk_e:=ent0 st Tryz.func48 [i_WordOk_e] (ks:=[.st .tupl]) i_TupleOk (fun v=>[(false,[.c (.bool v)])]) fun _=>by kernel_rfl
noncomputable def i_SegmentOk:FT (Segm×Unit) (Bool) (fun _=>True) (fun x v=>(v=true→x.1.body.length≤1420)):=⟨fun(x0,_)=>
  .cal i_WordOk.c (x0.from_,16,()) fun c1=>
  .ite c1 (.cal i_WordOk.c (x0.to,16,()) fun c2=>
   .ite c2 (.cal i_WordOk.c (x0.window,16,()) fun c3=>
    .ite c3 (.cal i_WordOk.c (x0.seq,32,()) fun c4=>
     .ite c4 (.cal i_WordOk.c (x0.ack,32,()) fun c5=>
      .ite c5 (.cal i_WordOk.c (x0.flags,6,()) fun c6=>
       .ite c6 (.cal i_OptionsOk.c (x0.opts,()) fun c7=>
        .ite c7 (.ret (decide ((x0.body.length:Int)≤1420)))<|
        .ret false)<|
       .ret false)<|
      .ret false)<|
     .ret false)<|
    .ret false)<|
   .ret false)<|
  .ret false,
 fun(x0,_) hp=>by
  refine Tr.C trivial fun _ _ _=>Tr.I (fun _=>Tr.C trivial fun _ _ _=>Tr.I (fun _=>Tr.C trivial fun _ _ _=>Tr.I (fun _=>Tr.C trivial fun _ _ _=>Tr.I (fun _=>Tr.C trivial fun _ _ _=>Tr.I (fun _=>Tr.C trivial fun _ _ _=>Tr.I (fun _=>Tr.C trivial fun _ _ _=>Tr.I (fun _=>Tr.R ?_) fun _=>Tr.R ?_) fun _=>Tr.R ?_) fun _=>Tr.R ?_) fun _=>Tr.R ?_) fun _=>Tr.R ?_) fun _=>Tr.R ?_) fun _=>Tr.R ?_
  all_goals (grind)⟩
noncomputable def i_SegmentOk_e:=ent0 st Tryz.func49 [i_WordOk_e,i_OptionsOk_e] (ks:=[.st .segm]) i_SegmentOk (fun v=>[(false,[.c (.bool v)])]) fun _=>by kernel_rfl
noncomputable def s_ConnNew_o:List (Ent1 Tryz.prog):=[s_OptionsOk_e,s_NoOptions_e,s_WordOk_e,s_l1Max_e,s_SeqAdd_e,s_ReceiverNew_e]
def s_ConnNew_J14_a:An:=⟨⟨[],[],false,0⟩,⟨[1,2,4,5,8,10],[],false,0⟩,⟨[],[]⟩,[(.normal,⟨[(1,false,[.int .i64]),(2,false,[.int .i64]),(4,false,[.int .i64]),(5,false,[.ptr 0 0]),(8,false,[.ptr 1 0]),(10,false,[.ptr 2 0])],[.box [.st .tupl []],.box [.st .opti []],.box [.st .conn [.nil .piec]]]⟩)]⟩
def s_ConnNew_J18_a:An:=⟨⟨[],[],false,0⟩,⟨[1,2,4,5,8,10],[],false,0⟩,⟨[],[]⟩,[(.normal,⟨[(1,false,[.int .i64]),(2,false,[.int .i64]),(4,false,[.int .i64]),(5,false,[.ptr 0 0]),(8,false,[.ptr 1 0]),(10,false,[.ptr 2 0])],[.box [.st .tupl []],.box [.st .opti []],.box [.st .conn [.nil .piec]]]⟩)]⟩
noncomputable def s_ConnNew_x:Fx:=⟨63,Tryz.f63,[(1000014,s_ConnNew_J14_a),(1000018,s_ConnNew_J18_a)],0⟩
noncomputable def s_ConnNew:FT (Tupl×Int×Int×Opti×Int×Unit) (Conn) (fun _=>True) (fun x v=>sm_conn v):=⟨fun(x0,x1,x2,x3,x4,_)=>
  .cal s_OptionsOk.c (x3,()) fun c1=>
  .bnd (β:=Int×Int×Int×Tupl×Opti×Conn×Unit) (.ite (!c1) (.val (s_NoOptions.f (())) fun c2=>
    .ret (x1,x2,x4,x0,c2,(⟨⟨0,0,0⟩,0,⟨0,[],0,false,false,false⟩,⟨0,[],[],0,false⟩,0,0,⟨0,0,false,false,0,0⟩,0,0⟩:Conn),()))<|
   .ret (x1,x2,x4,x0,x3,(⟨⟨0,0,0⟩,0,⟨0,[],0,false,false,false⟩,⟨0,[],[],0,false⟩,0,0,⟨0,0,false,false,0,0⟩,0,0⟩:Conn),())) fun(u3a0,u3a1,u3a2,u3a3,u3a4,u3a5,_)=>
  .cal s_WordOk.c (u3a2,16,()) fun c4=>
  .bnd (β:=Int×Int×Int×Tupl×Opti×Conn×Unit) (.ite (!c4) (.ret (u3a0,u3a1,0,u3a3,u3a4,({u3a5 with r.held:=[]}:Conn),()))<|
   .ret (u3a0,u3a1,u3a2,u3a3,u3a4,({u3a5 with r.held:=[]}:Conn),())) fun(u5a0,u5a1,u5a2,u5a3,u5a4,_,_)=>
  .val (s_l1Max.f (0,u5a4.scale,())) fun c6=>
  .grd (decide (0≤(IntKind.wrap .u64 c6)))<|
  .val (s_SeqAdd.f (u5a0,1,())) fun c7=>
  .val (s_SeqAdd.f (u5a1,1,())) fun c8=>
  .cal s_ReceiverNew.c (c8,()) fun c9=>
  .ret (⟨u5a3,1,⟨c7,[],0,false,false,false⟩,c9,(IntKind.wrap .i64 (u5a2*2 ^ (min (IntKind.wrap .u64 c6).toNat 64))),(IntKind.wrap .i64 (u5a2*2 ^ (min (IntKind.wrap .u64 c6).toNat 64))),u5a4,0,0⟩:Conn),
 fun(x0,x1,x2,x3,x4,_) hp=>by
  refine Tr.C trivial fun _ _ _=>Tr.B (Q':=fun w=>sm_conn w.2.2.2.2.2.1) (Tr.I (fun _=>Tr.V fun _ _=>Tr.R ?_) fun _=>Tr.R ?_) (fun(u3a0,u3a1,u3a2,u3a3,u3a4,u3a5,_) _ _=>Tr.C trivial fun _ _ _=>Tr.B (Q':=fun w=>sm_conn w.2.2.2.2.2.1) (Tr.I (fun _=>Tr.R ?_) fun _=>Tr.R ?_) (fun(u5a0,u5a1,u5a2,u5a3,u5a4,u5a5,_) _ _=>Tr.V fun _ _=>Tr.G1 ?_ fun _=>Tr.V fun _ _=>Tr.V fun _ _=>Tr.C trivial fun _ _ _=>Tr.R ?_))
  all_goals ((try simp only[Tr.nice,letK]at*)<;>grind)⟩
noncomputable def s_ConnNew_e:=entT st s_ConnNew_x s_ConnNew_o [] (ks:=[.st .tupl,.sc (.int .i64),.sc (.int .i64),.st .opti,.sc (.int .i64)]) s_ConnNew (fun v=>[(true,q_conn (.o true) v)]) Tryz.func63 trivial fun _=>by kernel_rfl
noncomputable def s_LearnedOptions_o:List (Ent1 Tryz.prog):=[s_NoOptions_e,s_MssOf_e,s_StampIn_e]
noncomputable def s_LearnedOptions_x:Fx:=⟨64,Tryz.f64,[(3000004,rA 0 24)],0⟩
noncomputable def s_LearnedOptions:FT (Int×Opti×Unit) (Opti) (fun _=>True) (fun _ _=>True):=⟨fun(x0,x1,_)=>
  .val (s_NoOptions.f (())) fun c1=>
  .cal s_MssOf.c (x0,()) fun c2=>
  .cal s_StampIn.c (x1.echo,()) fun c3=>
  .bnd (β:=Bool×Unit) (.ite x1.stamp (.ret (c3.2.2,()))<|
   .ret (false,())) fun(u4a0,_)=>
  .ite u4a0 (.ret (⟨c2,c3.1,c3.2.1,true,x1.val,c1.echo⟩:Opti))<|
  .ret ({c1 with mss:=c2}:Opti),
 fun(x0,x1,_) hp=>by
  refine Tr.V fun _ _=>Tr.C trivial fun _ _ _=>Tr.C trivial fun _ _ _=>Tr.F (by kernel_rfl) trivial⟩
noncomputable def s_LearnedOptions_e:=entT st s_LearnedOptions_x s_LearnedOptions_o [] (ks:=[.sc (.int .i64),.st .opti]) s_LearnedOptions (fun v=>[(true,q_opti v)]) Tryz.func64 trivial fun _=>by kernel_rfl
noncomputable def s_CookieParts:FT (Int×Unit) (Int×Int×Int) (fun _=>True) (fun _ _=>True):=⟨fun(x0,_)=>
  .cal s_WordOk.c (x0,32,()) fun c1=>
  .ite (!c1) (.ret ((-1),(-1),(-1)))<|
  .ret ((IntKind.wrap .i64 (x0.tdiv 134217728)),((IntKind.wrap .i64 (x0.tdiv 16777216)).tmod 8),(x0.tmod 16777216)),
 fun(x0,_) hp=>by
  refine Tr.C trivial fun _ _ _=>Tr.F (by kernel_rfl) trivial⟩
noncomputable def s_CookieParts_e:=ent0 st Tryz.func68 [s_WordOk_e] (ks:=[.sc (.int .i64)]) s_CookieParts (fun v=>[(false,[.c (.int .i64 v.1)]),(false,[.c (.int .i64 v.2.1)]),(false,[.c (.int .i64 v.2.2)])]) fun _=>by kernel_rfl
noncomputable def s_KeysOk_o:List (Ent1 Tryz.prog):=[s_WordOk_e,s_MacOk_e,s_SameMac_e]
noncomputable def s_KeysOk_x:Fx:=⟨69,Tryz.f69,[(3000001,rA 0 18)],0⟩
noncomputable def s_KeysOk:FT (Keys×Unit) (Bool) (fun x=>sm_keys x.1) (fun x v=>(v=true→0≤x.1.epoch∧x.1.epoch≤4294967295)):=⟨fun(x0,_)=>
  .bnd (β:=Bool×Unit) (.cal s_WordOk.c (x0.epoch,32,()) fun c1=>
   .ite (!c1) (.ret (true,()))<|
   .cal s_MacOk.c (x0.now,()) fun c2=>
   .ite (!c2) (.ret (true,()))<|
   .cal s_MacOk.c (x0.before,()) fun c3=>
   .ret ((!c3),())) fun(u4a0,_)=>
  .ite u4a0 (.ret false)<|
  .ite x0.two (.ret (decide (1≤x0.epoch)))<|
  .cal s_SameMac.c (x0.before,(⟨false,0,0,[]⟩:Mac),()) fun c5=>
  .ret c5,
 fun(x0,_) hp=>by
  refine Tr.B (Q':=fun w=>(w.1=false→x0.now.rows.length≤64∧x0.before.rows.length≤64)) (Tr.C trivial fun _ _ _=>Tr.I (fun _=>Tr.R ?_) fun _=>Tr.C ?_ fun _ _ _=>Tr.I (fun _=>Tr.R ?_) fun _=>Tr.C ?_ fun _ _ _=>Tr.R ?_) (fun(u4a0,_) _ _=>Tr.I (fun _=>Tr.R ?_) fun _=>Tr.I (fun _=>Tr.R ?_) fun _=>Tr.C ?_ fun _ _ _=>Tr.R ?_)
  all_goals ((try simp only[Tr.nice,letK]at*)<;>grind)⟩
noncomputable def s_KeysOk_e:=entT st s_KeysOk_x s_KeysOk_o [] (ks:=[.st .keys]) s_KeysOk (fun v=>[(false,[.c (.bool v)])]) Tryz.func69 trivial fun _=>by kernel_rfl
noncomputable def s_HalvesOk_o:List (Ent1 Tryz.prog):=[s_TupleOk_e,s_WordOk_e,s_OptionsOk_e,s_l1In_e,s_FindHalf_e]
def s_HalvesOk_L0_h:Sh:=⟨[(0,false,[.sl .arg .half]),(3,false,[.int .i64])],[]⟩
noncomputable def s_HalvesOk_x:Fx:=⟨93,Tryz.f93,[(0,la ⟨[0,3],[],false,0⟩ ⟨[0,2],[],false,0⟩)],0⟩
noncomputable def s_HalvesOk_L0_T (v0:List Half)(v1:Int)(a:Unit):Tr (Stp (Unit) ((Unit))):=
 .grd ((decide (0≤v1))&&(decide (v1<(v0.length:Int))))<|
 .cal s_TupleOk.c ((v0.getD v1.toNat (Ty.zero .half)).tuple,()) fun c1=>
 .ite (!c1) (.ret (.out ()))<|
 .cal s_WordOk.c ((v0.getD v1.toNat (Ty.zero .half)).iss,32,()) fun c2=>
 .ite (!c2) (.ret (.out ()))<|
 .cal s_WordOk.c ((v0.getD v1.toNat (Ty.zero .half)).irs,32,()) fun c3=>
 .ite (!c3) (.ret (.out ()))<|
 .cal s_WordOk.c ((v0.getD v1.toNat (Ty.zero .half)).window,16,()) fun c4=>
 .ite (!c4) (.ret (.out ()))<|
 .cal s_OptionsOk.c ((v0.getD v1.toNat (Ty.zero .half)).opts,()) fun c5=>
 .ite (!c5) (.ret (.out ()))<|
 .val (s_l1In.f ((v0.getD v1.toNat (Ty.zero .half)).age,0,6,())) fun c6=>
 .ite (!c6) (.ret (.out ()))<|
 .grd ((decide (0≤v1))&&(decide (v1≤(v0.length:Int))))<|
 .cal s_FindHalf.c (((v0.take v1.toNat).drop 0),(v0.getD v1.toNat (Ty.zero .half)).tuple,()) fun c7=>
 .ite (decide (0≤c7)) (.ret (.out ()))<|
 .ret (.next ())
noncomputable def s_HalvesOk_L0_d:s_HalvesOk_L0_h.V→LC s_HalvesOk_L0_h (Unit) ((Unit)) (((Unit))⊕(Int×Unit)):=fun(v0,v1,_)=>⟨v1,(),fun v1 _=>(v0,v1,()),fun v1 _=>(decide (v1<(v0.length:Int))),s_HalvesOk_L0_T v0,up,1,(Int.toNat ((v0.length:Int)-v1)),.inl,fun i a=> .inr (i,a),fun _ k w=>Sum.elim (fun _=>k .ret (Sh.enc ⟨[(0,false,[.sl .arg .half]),(2,false,[.bool])],[]⟩ (v0,false,()))) (fun _=>k (.exit 0) (Sh.enc ⟨[(0,false,[.sl .arg .half]),(2,false,[.undef])],[]⟩ (v0,()))) w⟩
theorem s_HalvesOk_L0_s:LS Tryz.prog s_HalvesOk_x [0] (leC 0 s_HalvesOk_L0_h s_HalvesOk_L0_d):=loopC st (orcOf_ok s_HalvesOk_o) _ s_HalvesOk_L0_d [] trivial (by kernel_rfl) (fun _=>by kernel_rfl) fun _ _ _ _ _ _=>by kernel_rfl
theorem s_HalvesOk_L0_k {v0:List Half}{v1:Int}(h0:0≤v1)(h1:(v0.length:Int)≤4611686018427387904)(h2:wS v0):(s_HalvesOk_L0_d (v0,v1,())).U (v0.length:Int) (fun _ _=>True) (fun _=>True):=
 LC.okU (i:=v1) (a:=()) (fun _ _=>rfl) (fun _=>rfl) rfl h0 h1 trivial fun v1 _ hj hk hv=>by
  refine Tr.G2 ?_ fun _=>Tr.C trivial fun _ _ _=>Tr.I (fun _=>Tr.Ro trivial) fun _=>Tr.C trivial fun _ _ _=>Tr.I (fun _=>Tr.Ro trivial) fun _=>Tr.C trivial fun _ _ _=>Tr.I (fun _=>Tr.Ro trivial) fun _=>Tr.C trivial fun _ _ _=>Tr.I (fun _=>Tr.Ro trivial) fun _=>Tr.C trivial fun _ _ _=>Tr.I (fun _=>Tr.Ro trivial) fun _=>Tr.V fun _ _=>Tr.I (fun _=>Tr.Ro trivial) fun _=>Tr.G2 ?_ fun _=>Tr.C ?_ fun _ _ _=>Tr.Z (by kernel_rfl)
  all_goals (grind)
noncomputable def s_HalvesOk:FT (List Half×Unit) (Bool) (fun x=>wS x.1) (fun x v=>(v=true→x.1.length≤64)):=⟨fun(x0,_)=>
  .lp (s_HalvesOk_L0_d (x0,0,())).lp fun w8=> .sum w8 (fun _=>
  .ret false)<|
  fun _=>
  .ret (decide ((x0.length:Int)≤64)),
 fun(x0,_) hp=>by
  refine Tr.L (s_HalvesOk_L0_k ?_ ?_ ?_) (fun _ _=>Tr.Sr (Tr.R ?_)) (fun _ _=>Tr.Sl (Tr.R ?_))
  all_goals ((try simp only[s_HalvesOk_L0_d,LC.lp,LC.ct,Ct.lp]at*)<;>grind)⟩
noncomputable def s_HalvesOk_e:=entT st s_HalvesOk_x s_HalvesOk_o [(leC 0 s_HalvesOk_L0_h s_HalvesOk_L0_d)] (ks:=[.sc (.sl .half)]) s_HalvesOk (fun v=>[(false,[.c (.bool v)])]) Tryz.func93 ⟨s_HalvesOk_L0_s,trivial⟩ fun _=>by kernel_rfl
noncomputable def s_LinkOk:FT (Link×Unit) (Bool) (fun x=>sm_link x.1) (fun _ _=>True):=⟨fun(x0,_)=>
  .cal s_WordOk.c (x0.mac,48,()) fun c1=>
  .ite c1 (.ite (x0.mac != 281474976710655) (.cal s_WordOk.c (x0.ip,32,()) fun c2=>
    .ite c2 (.cal s_CacheOk.c (x0.cache,()) fun c3=>
     .ret c3)<|
    .ret false)<|
   .ret false)<|
  .ret false,
 fun(x0,_) hp=>by
  refine Tr.C trivial fun _ _ _=>Tr.I (fun _=>Tr.I (fun _=>Tr.C trivial fun _ _ _=>Tr.I (fun _=>Tr.C ?_ fun _ _ _=>Tr.R trivial) fun _=>Tr.R trivial) fun _=>Tr.R trivial) fun _=>Tr.R trivial
  all_goals (grind)⟩
noncomputable def s_LinkOk_e:=ent0 st Tryz.func109 [s_WordOk_e,s_CacheOk_e] (ks:=[.st .link]) s_LinkOk (fun v=>[(false,[.c (.bool v)])]) fun _=>by kernel_rfl
noncomputable def i_LinkOk:FT (Link×Unit) (Bool) (fun x=>sm_link x.1) (fun _ _=>True):=⟨fun(x0,_)=>
  .cal i_WordOk.c (x0.mac,48,()) fun c1=>
  .ite c1 (.ite (x0.mac != 281474976710655) (.cal i_WordOk.c (x0.ip,32,()) fun c2=>
    .ite c2 (.cal i_CacheOk.c (x0.cache,()) fun c3=>
     .ret c3)<|
    .ret false)<|
   .ret false)<|
  .ret false,
 fun(x0,_) hp=>by
  refine Tr.C trivial fun _ _ _=>Tr.I (fun _=>Tr.I (fun _=>Tr.C trivial fun _ _ _=>Tr.I (fun _=>Tr.C ?_ fun _ _ _=>Tr.R trivial) fun _=>Tr.R trivial) fun _=>Tr.R trivial) fun _=>Tr.R trivial
  all_goals (grind)⟩
noncomputable def i_LinkOk_e:=ent0 st Tryz.func110 [i_WordOk_e,i_CacheOk_e] (ks:=[.st .link]) i_LinkOk (fun v=>[(false,[.c (.bool v)])]) fun _=>by kernel_rfl
noncomputable def s_ConnOk_o:List (Ent1 Tryz.prog):=[s_TupleOk_e,s_SenderOk_e,s_ReceiverOk_e,s_OptionsOk_e,s_l1In_e,s_l19Fin_e]
def s_ConnOk_J55_a:An:=⟨⟨[],[],false,0⟩,⟨[1,2,3],[],false,0⟩,⟨[],[]⟩,[(.normal,⟨[(1,false,[.ptr 0 0]),(2,false,[.bool]),(3,false,[.int .i64])],[.box [.st .conn [.sl .arg]]]⟩)]⟩
noncomputable def s_ConnOk_x:Fx:=⟨111,Tryz.f111,[(1000055,s_ConnOk_J55_a),(3000001,rA 0 52),(3000010,rA 0 4),(3000011,rA 0 5)],0⟩
noncomputable def s_ConnOk:FT (Conn×Unit) (Bool) (fun x=>sm_conn x.1) (fun x v=>(v=true→SO x.1.s∧RO x.1.r)):=⟨fun(x0,_)=>
  .bnd (β:=Bool×Unit) (.cal s_TupleOk.c (x0.tuple,()) fun c1=>
   .ite (!c1) (.ret (true,()))<|
   .cal s_SenderOk.c (x0.s,()) fun c2=>
   .ite (!c2) (.ret (true,()))<|
   .cal s_ReceiverOk.c (x0.r,()) fun c3=>
   .ite (!c3) (.ret (true,()))<|
   .cal s_OptionsOk.c (x0.opts,()) fun c4=>
   .ite (!c4) (.ret (true,()))<|
   .val (s_l1In.f (x0.state,1,8,())) fun c5=>
   .ite (!c5) (.ret (true,()))<|
   .val (s_l1In.f (x0.window,0,x0.most,())) fun c6=>
   .ite (!c6) (.ret (true,()))<|
   .ite (decide (1073725440<x0.most)) (.ret (true,()))<|
   .val (s_l1In.f (x0.tries,0,3,())) fun c7=>
   .ret ((!c7),())) fun(u8a0,_)=>
  .ite u8a0 (.ret false)<|
  .bnd (β:=Bool×Int×Conn×Unit) (.ite (x0.state==7) (.ret (false,4,x0,()))<|
   .ret (false,3,x0,())) fun(_,u9a1,u9a2,_)=>
  .val (s_l1In.f (u9a2.timer,0,u9a1,())) fun c10=>
  .ite (!c10) (.ret false)<|
  .ite (u9a2.state==8) (.ret true)<|
  .bnd (β:=Bool×Unit) (.ite (u9a2.state==3) (.ret (true,()))<|
   .ret ((u9a2.state==7),())) fun(u11a0,_)=>
  .bnd (β:=Bool×Unit) (.ite (u9a2.state==4) (.ret (true,()))<|
   .ret ((decide (5≤u9a2.state)),())) fun(u12a0,_)=>
  .val (s_l19Fin.f (u9a2.state,())) fun c13=>
  .ite (u9a2.s.fin==c13) (.ite (u9a2.s.done==u11a0) (.ret (u9a2.r.done==u12a0))<|
   .ret false)<|
  .ret false,
 fun(x0,_) hp=>by
  refine Tr.B (Q':=fun w=>(w.1=false→SO x0.s∧RO x0.r)) (Tr.C trivial fun _ _ _=>Tr.I (fun _=>Tr.R ?_) fun _=>Tr.C trivial fun _ _ _=>Tr.I (fun _=>Tr.R ?_) fun _=>Tr.C ?_ fun _ _ _=>Tr.I (fun _=>Tr.R ?_) fun _=>Tr.C trivial fun _ _ _=>Tr.I (fun _=>Tr.R ?_) fun _=>Tr.V fun _ _=>Tr.I (fun _=>Tr.R ?_) fun _=>Tr.V fun _ _=>Tr.I (fun _=>Tr.R ?_) fun _=>Tr.I (fun _=>Tr.R ?_) fun _=>Tr.V fun _ _=>Tr.R ?_) (fun(u8a0,_) _ _=>Tr.I (fun _=>Tr.R ?_) fun _=>Tr.B (Q':=fun w=>sm_conn w.2.2.1) (Tr.I (fun _=>Tr.R ?_) fun _=>Tr.R ?_) (fun(u9a0,u9a1,u9a2,_) _ _=>Tr.V fun _ _=>Tr.I (fun _=>Tr.R ?_) fun _=>Tr.I (fun _=>Tr.R ?_) fun _=>Tr.B (Q':=fun _=>True) (Tr.F (by kernel_rfl) trivial) (fun(u11a0,_) _ _=>Tr.B (Q':=fun _=>True) (Tr.F (by kernel_rfl) trivial) (fun(u12a0,_) _ _=>Tr.V fun _ _=>Tr.I (fun _=>Tr.I (fun _=>Tr.R ?_) fun _=>Tr.R ?_) fun _=>Tr.R ?_))))
  all_goals ((try simp only[Tr.nice,letK]at*)<;>grind)⟩
noncomputable def s_ConnOk_e:=entT st s_ConnOk_x s_ConnOk_o [] (ks:=[.st .conn]) s_ConnOk (fun v=>[(false,[.c (.bool v)])]) Tryz.func111 trivial fun _=>by kernel_rfl
noncomputable def s_Acceptable_o:List (Ent1 Tryz.prog):=[s_SegmentLen_e,s_WindowOf_e,s_SeqDiff_e,s_InWindow_e,s_Overlaps_e]
noncomputable def s_Acceptable_x:Fx:=⟨114,Tryz.f114,[(3000004,rA 0 4)],0⟩
noncomputable def s_Acceptable:FT (Conn×Segm×Unit) (Bool) (fun x=>sm_conn x.1∧sm_segm x.2.1) (fun _ _=>True):=⟨fun(x0,x1,_)=>
  .cal s_SegmentLen.c (x1,()) fun c1=>
  .cal s_WindowOf.c (x0.r,()) fun c2=>
  .ite (c1==0) (.bnd (β:=Bool×Unit) (.val (s_SeqDiff.f (x1.seq,x0.r.next,())) fun c3=>
    .ite (c3==0) (.ret (true,()))<|
    .val (s_InWindow.f (x1.seq,x0.r.next,c2,())) fun c4=>
    .ret (c4,())) fun(u5a0,_)=>
   .ret u5a0)<|
  .cal s_Overlaps.c (x1.seq,c1,x0.r.next,c2,()) fun c6=>
  .ret c6,
 fun(x0,x1,_) hp=>by
  refine Tr.C ?_ fun _ _ _=>Tr.C ?_ fun _ _ _=>Tr.I (fun _=>Tr.F (by kernel_rfl) trivial) fun _=>Tr.C ?_ fun _ _ _=>Tr.R trivial
  all_goals ((try simp only[Tr.nice,letK]at*)<;>grind)⟩
noncomputable def s_Acceptable_e:=entT st s_Acceptable_x s_Acceptable_o [] (ks:=[.st .conn,.st .segm]) s_Acceptable (fun v=>[(false,[.c (.bool v)])]) Tryz.func114 trivial fun _=>by kernel_rfl
noncomputable def i_cloneKeys:FT (Keys×Unit) (Keys) (fun x=>sm_keys x.1) (fun x v=>sm_keys v∧v=x.1):=⟨fun(x0,_)=>
  .cal i_cloneMac.c (x0.now,()) fun c1=>
  .cal i_cloneMac.c (x0.before,()) fun c2=>
  .ret (⟨x0.epoch,c1,c2,x0.two⟩:Keys),
 fun(x0,_) hp=>by
  refine Tr.C ?_ fun c1 hc1 qc1=>Tr.C ?_ fun c2 hc2 qc2=>Tr.R ?_
  all_goals ((first|grind|(refine⟨by grind, ?_⟩;first|(simp only[List.nil_append];done)|(subst_vars;rfl)|simp_all)))⟩
noncomputable def i_cloneKeys_e:=ent0 st Tryz.func130 [i_cloneMac_e] (ks:=[.st .keys]) i_cloneKeys (fun v=>[(true,q_keys (.o true) (.o true) v)]) fun _=>by kernel_rfl
noncomputable def i_cloneConn:FT (Conn×Unit) (Conn) (fun x=>sm_conn x.1) (fun x v=>sm_conn v∧v=x.1):=⟨fun(x0,_)=>
  .cal i_cloneReceiver.c (x0.r,()) fun c1=>
  .ret ({x0 with r.next:=c1.next,r.data:=c1.data,r.held:=c1.held,r.fin:=c1.fin,r.done:=c1.done}:Conn),
 fun(x0,_) hp=>by
  refine Tr.C ?_ fun c1 hc1 qc1=>Tr.R ?_
  all_goals ((first|grind|(refine⟨by grind, ?_⟩;first|(simp only[List.nil_append];done)|(subst_vars;rfl)|simp_all)))⟩
noncomputable def i_cloneConn_e:=ent0 st Tryz.func143 [i_cloneReceiver_e] (ks:=[.st .conn]) i_cloneConn (fun v=>[(true,q_conn (.o true) v)]) fun _=>by kernel_rfl
noncomputable def i_AckOf:FT (Conn×Unit) (Segm) (fun x=>sm_conn x.1) (fun x v=>sm_segm v):=⟨fun(x0,_)=>
  .cal i_NextOf.c (x0.s,()) fun c1=>
  .cal i_WindowOf.c (x0.r,()) fun c2=>
  .val (i_NoOptions.f (())) fun c3=>
  .ret (⟨x0.tuple.my,x0.tuple.port,c1,x0.r.next,16,c2,c3,[]⟩:Segm),
 fun(x0,_) hp=>by
  refine Tr.C ?_ fun _ _ _=>Tr.C ?_ fun _ _ _=>Tr.V fun _ _=>Tr.R ?_
  all_goals (grind)⟩
noncomputable def i_AckOf_e:=ent0 st Tryz.func145 [i_NextOf_e,i_WindowOf_e,i_NoOptions_e] (ks:=[.st .conn]) i_AckOf (fun v=>[(true,q_segm v)]) fun _=>by kernel_rfl
noncomputable def s_l25Copy_o:List (Ent1 Tryz.prog):=[s_l19Copy_e]
def s_l25Copy_L0_h:Sh:=⟨[(1,false,[.ptr 0 0]),(2,false,[.ptr 1 0]),(3,false,[.ptr 2 0]),(4,false,[.int .i64])],[.box [.st .tabl [.sl .arg,.sl .arg]],.box [.st .tabl [.nil .conn,.nil .tupl]],.box [.st .tabl [.own 3,.own 4]],.of false true,.of false true]⟩
noncomputable def s_l25Copy_x:Fx:=⟨152,Tryz.f152,[(0,la ⟨[1,2,3,4],[.box 3 0 .conn],false,0⟩ ⟨[2,3],[],false,0⟩)],0⟩
noncomputable def s_l25Copy_L0_T (v1:Tabl)(v0:Int)(a:Tabl×Tabl):Tr (Stp (Tabl×Tabl) (Empty)):=
 .grd ((decide (0≤v0))&&(decide (v0<(v1.conns.length:Int))))<|
 .cal s_l19Copy.c ((v1.conns.getD v0.toNat (Ty.zero .conn)),()) fun c2=>
 .grd (Nat.ble ((2*(a.2.conns.length+1)+1024)*208) maxSl)<|
 .ret (.next ((⟨[],[]⟩:Tabl),(⟨(a.2.conns++[c2]),a.2.waiting⟩:Tabl)))
noncomputable def s_l25Copy_L0_d:s_l25Copy_L0_h.V→LC s_l25Copy_L0_h (Tabl×Tabl) (Empty) (Int×(Tabl×Tabl)):=fun(v0,v1,v2,v3,_)=>⟨v0,(v2,v3),fun v0 a=>(v0,v1,a.1,a.2,()),fun v0 _=>(decide (v0<(v1.conns.length:Int))),s_l25Copy_L0_T v1,up,1,(Int.toNat ((v1.conns.length:Int)-v0)),(fun p=>Empty.elim p),fun i a=>(i,a),fun _ k x=>k (.exit 0) (Sh.enc ⟨[(2,false,[.ptr 0 0]),(3,false,[.ptr 1 0])],[.box [.st .tabl [.nil .conn,.nil .tupl]],.box [.st .tabl [.own 2,.own 3]],.of false true,.of false true]⟩ ((⟨[],[]⟩:Tabl),x.2.2,()))⟩
theorem s_l25Copy_L0_s:LS Tryz.prog s_l25Copy_x [0] (leC 0 s_l25Copy_L0_h s_l25Copy_L0_d):=loopC st (orcOf_ok s_l25Copy_o) _ s_l25Copy_L0_d [] trivial (by kernel_rfl) (fun _=>by kernel_rfl) fun _ _ _ _ _ _=>by kernel_rfl
theorem s_l25Copy_L0_k {v0:Int}{v1 v2 v3:Tabl}(h0:0≤v0)(h1:(v1.conns.length:Int)≤4611686018427387904)(h2:sm_tabl v1)(h3:sS v3.waiting)(h4:sm_tabl v2∧(v3.conns.length:Int)=v0∧smE sm_conn v3.conns∧v3.waiting.length=v3.waiting.length):(s_l25Copy_L0_d (v0,v1,v2,v3,())).U (v1.conns.length:Int) (fun v0 a=>sm_tabl a.1∧(a.2.conns.length:Int)=v0∧smE sm_conn a.2.conns∧a.2.waiting.length=v3.waiting.length) (fun _=>True):=
 LC.okU (i:=v0) (a:=(v2,v3)) (fun _ _=>rfl) (fun _=>rfl) rfl h0 h1 h4 fun v0 (v2,v3) hj hk hv=>by
  refine Tr.G2 ?_ fun _=>Tr.C ?_ fun _ _ _=>Tr.Gb ?_ fun _=>Tr.Rn ?_
  all_goals (grind)
noncomputable def s_l25Copy:FT (Tabl×Unit) (Tabl) (fun x=>sm_tabl x.1) (fun x v=>sm_tabl v∧v.conns.length=x.1.conns.length∧v.waiting.length=x.1.waiting.length):=⟨fun(x0,_)=>
  .grd (Nat.ble ((2*(0+x0.waiting.length)+1024)*24) maxSl)<|
  .lp (s_l25Copy_L0_d (0,x0,(⟨[],[]⟩:Tabl),(⟨[],([]++x0.waiting)⟩:Tabl),())).lp fun(_,_,a3_1)=>
  .ret a3_1,
 fun(x0,_) hp=>by
  refine Tr.Gb ?_ fun _=>Tr.L (s_l25Copy_L0_k ?_ ?_ ?_ ?_ ?_) (fun(a3_0,a3_1) _=>Tr.R ?_) (fun p=>Empty.elim p)
  all_goals ((try simp only[s_l25Copy_L0_d,LC.lp,LC.ct,Ct.lp]at*)<;>grind)⟩
noncomputable def s_l25Copy_e:=entT st s_l25Copy_x s_l25Copy_o [(leC 0 s_l25Copy_L0_h s_l25Copy_L0_d)] (ks:=[.st .tabl]) s_l25Copy (fun v=>[(true,q_tabl (.o true) (.o true) v)]) Tryz.func152 ⟨s_l25Copy_L0_s,trivial⟩ fun _=>by kernel_rfl
noncomputable def s_SetConn:FT (Tabl×Conn×Unit) (Tabl) (fun x=>sm_tabl x.1∧sm_conn x.2.1) (fun x v=>sm_tabl v):=⟨fun(x0,x1,_)=>
  .cal s_l25Copy.c (x0,()) fun c1=>
  .cal s_FindConn.c (x0,x1.tuple,()) fun c2=>
  .ite (decide (0≤c2)) (.cal s_l19Copy.c (x1,()) fun c3=>
   .grd ((decide (0≤c2))&&(decide (c2<(c1.conns.length:Int))))<|
   .ret (⟨(c1.conns.set c2.toNat c3),c1.waiting⟩:Tabl))<|
  .ret c1,
 fun(x0,x1,_) hp=>by
  refine Tr.C ?_ fun _ _ _=>Tr.C ?_ fun _ _ _=>Tr.I (fun _=>Tr.C ?_ fun _ _ _=>Tr.G2 ?_ fun _=>Tr.R ?_) fun _=>Tr.R ?_
  all_goals (grind)⟩
noncomputable def s_SetConn_e:=ent0 st Tryz.func156 [s_l25Copy_e,s_FindConn_e,s_l19Copy_e] (ks:=[.st .tabl,.st .conn]) s_SetConn (fun v=>[(true,q_tabl (.o true) (.o true) v)]) fun _=>by kernel_rfl
noncomputable def s_MacInput_o:List (Ent1 Tryz.prog):=[s_TupleOk_e,s_WordOk_e,s_l1In_e,s_PutWord_e]
noncomputable def s_MacInput_x:Fx:=⟨163,Tryz.f163,[(3000001,rA 0 26)],0⟩
noncomputable def s_MacInput:FT (Tupl×Int×Int×Int×Unit) (Bytes) (fun _=>True) (fun x v=>sS v∧v.length≤40):=⟨fun(x0,x1,x2,x3,_)=>
  .bnd (β:=Bool×Unit) (.cal s_TupleOk.c (x0,()) fun c1=>
   .ite (!c1) (.ret (true,()))<|
   .cal s_WordOk.c (x1,32,()) fun c2=>
   .ite (!c2) (.ret (true,()))<|
   .cal s_WordOk.c (x2,32,()) fun c3=>
   .ite (!c3) (.ret (true,()))<|
   .val (s_l1In.f (x3,0,7,())) fun c4=>
   .ret ((!c4),())) fun(u5a0,_)=>
  .ite u5a0 (.ret [])<|
  .cal s_PutWord.c (x0.ip,4,()) fun c6=>
  .cal s_PutWord.c (x0.port,2,()) fun c7=>
  .grd (Nat.ble (c6.length+c7.length) maxStr)<|
  .cal s_PutWord.c (x0.my,2,()) fun c8=>
  .grd (Nat.ble ((c6++c7).length+c8.length) maxStr)<|
  .cal s_PutWord.c (x1,4,()) fun c9=>
  .grd (Nat.ble (((c6++c7)++c8).length+c9.length) maxStr)<|
  .cal s_PutWord.c (x2,4,()) fun c10=>
  .grd (Nat.ble ((((c6++c7)++c8)++c9).length+c10.length) maxStr)<|
  .cal s_PutWord.c (x3,1,()) fun c11=>
  .grd (Nat.ble (((((c6++c7)++c8)++c9)++c10).length+c11.length) maxStr)<|
  .ret (((((c6++c7)++c8)++c9)++c10)++c11),
 fun(x0,x1,x2,x3,_) hp=>by
  refine Tr.B (Q':=fun _=>True) (Tr.C trivial fun c1 hc1 qc1=>Tr.I (fun b0=>Tr.R trivial) fun b0=>Tr.C trivial fun c2 hc2 qc2=>Tr.I (fun b1=>Tr.R trivial) fun b1=>Tr.C trivial fun c3 hc3 qc3=>Tr.F (by kernel_rfl) trivial) (fun(u5a0,_) hj5 qj5=>Tr.I (fun b0=>Tr.R ?_) fun b0=>Tr.C trivial fun c6 hc6 qc6=>Tr.C trivial fun c7 hc7 qc7=>Tr.Gb ?_ fun g1=>Tr.C trivial fun c8 hc8 qc8=>Tr.Gb ?_ fun g2=>Tr.C trivial fun c9 hc9 qc9=>Tr.Gb ?_ fun g3=>Tr.C trivial fun c10 hc10 qc10=>Tr.Gb ?_ fun g4=>Tr.C trivial fun c11 hc11 qc11=>Tr.Gb ?_ fun g5=>Tr.R ?_)
  all_goals ((try simp only[Tr.nice,letK]at*)<;>(first|(simp only[List.length_append,List.length_cons,List.length_nil,maxStr,sS]at*;omega)|grind))⟩
noncomputable def s_MacInput_e:=entT st s_MacInput_x s_MacInput_o [] (ks:=[.st .tupl,.sc (.int .i64),.sc (.int .i64),.sc (.int .i64)]) s_MacInput (fun v=>[(false,[.c (.str v)])]) Tryz.func163 trivial fun _=>by kernel_rfl
noncomputable def i_ConnOk_o:List (Ent1 Tryz.prog):=[i_TupleOk_e,i_SenderOk_e,i_ReceiverOk_e,i_OptionsOk_e,i_within_e]
def i_ConnOk_J37_a:An:=⟨⟨[],[],false,0⟩,⟨[1,2,3],[],false,0⟩,⟨[],[]⟩,[(.normal,⟨[(1,false,[.ptr 0 0]),(2,false,[.bool]),(3,false,[.int .i64])],[.box [.st .conn [.sl .arg]]]⟩)]⟩
noncomputable def i_ConnOk_x:Fx:=⟨167,Tryz.f167,[(1000037,i_ConnOk_J37_a),(3000001,rA 0 34),(3000006,rA 0 62)],0⟩
noncomputable def i_ConnOk:FT (Conn×Unit) (Bool) (fun x=>sm_conn x.1) (fun x v=>(v=true→SO x.1.s∧RO x.1.r)):=⟨fun(x0,_)=>
  .bnd (β:=Bool×Unit) (.cal i_TupleOk.c (x0.tuple,()) fun c1=>
   .ite (!c1) (.ret (true,()))<|
   .cal i_SenderOk.c (x0.s,()) fun c2=>
   .ite (!c2) (.ret (true,()))<|
   .cal i_ReceiverOk.c (x0.r,()) fun c3=>
   .ite (!c3) (.ret (true,()))<|
   .cal i_OptionsOk.c (x0.opts,()) fun c4=>
   .ite (!c4) (.ret (true,()))<|
   .val (i_within.f (x0.state,1,8,())) fun c5=>
   .ret ((!c5),())) fun(u6a0,_)=>
  .ite u6a0 (.ret false)<|
  .bnd (β:=Bool×Int×Conn×Unit) (.ite (x0.state==7) (.ret (false,4,x0,()))<|
   .ret (false,3,x0,())) fun(_,u7a1,u7a2,_)=>
  .bnd (β:=Bool×Unit) (.val (i_within.f (u7a2.most,0,1073725440,())) fun c8=>
   .ite (!c8) (.ret (true,()))<|
   .val (i_within.f (u7a2.window,0,u7a2.most,())) fun c9=>
   .ite (!c9) (.ret (true,()))<|
   .val (i_within.f (u7a2.timer,0,u7a1,())) fun c10=>
   .ite (!c10) (.ret (true,()))<|
   .val (i_within.f (u7a2.tries,0,3,())) fun c11=>
   .ret ((!c11),())) fun(u12a0,_)=>
  .ite u12a0 (.ret false)<|
  .ite (u7a2.state==1) (.ite (!u7a2.s.fin) (.ite (!u7a2.s.done) (.ret (!u7a2.r.done))<|
    .ret false)<|
   .ret false)<|
  .ite (u7a2.state==2) (.ite u7a2.s.fin (.ite (!u7a2.s.done) (.ret (!u7a2.r.done))<|
    .ret false)<|
   .ret false)<|
  .ite (u7a2.state==3) (.ite u7a2.s.fin (.ite u7a2.s.done (.ret (!u7a2.r.done))<|
    .ret false)<|
   .ret false)<|
  .ite (u7a2.state==4) (.ite (!u7a2.s.fin) (.ite (!u7a2.s.done) (.ret u7a2.r.done)<|
    .ret false)<|
   .ret false)<|
  .ite (u7a2.state==5) (.ite (u7a2.state==5) (.ite u7a2.s.fin (.ite (!u7a2.s.done) (.ret u7a2.r.done)<|
     .ret false)<|
    .ret false)<|
   .ite (u7a2.state==7) (.ite u7a2.s.fin (.ite u7a2.s.done (.ret u7a2.r.done)<|
     .ret false)<|
    .ret false)<|
   .ret true)<|
  .ite (u7a2.state==6) (.ite u7a2.s.fin (.ite (!u7a2.s.done) (.ret u7a2.r.done)<|
    .ret false)<|
   .ret false)<|
  .ite (u7a2.state==7) (.ite u7a2.s.fin (.ite u7a2.s.done (.ret u7a2.r.done)<|
    .ret false)<|
   .ret false)<|
  .ret true,
 fun(x0,_) hp=>by
  refine Tr.B (Q':=fun w=>(w.1=false→SO x0.s∧RO x0.r∧smE (pw (winR x0.r)) x0.r.held)) (Tr.C trivial fun _ _ _=>Tr.I (fun _=>Tr.R ?_) fun _=>Tr.C trivial fun _ _ _=>Tr.I (fun _=>Tr.R ?_) fun _=>Tr.C ?_ fun _ _ _=>Tr.I (fun _=>Tr.R ?_) fun _=>Tr.C trivial fun _ _ _=>Tr.I (fun _=>Tr.R ?_) fun _=>Tr.V fun _ _=>Tr.R ?_) (fun(u6a0,_) _ _=>Tr.I (fun _=>Tr.R ?_) fun _=>Tr.B (Q':=fun w=>sm_conn w.2.2.1) (Tr.I (fun _=>Tr.R ?_) fun _=>Tr.R ?_) (fun(u7a0,u7a1,u7a2,_) _ _=>Tr.B (Q':=fun _=>True) (Tr.F (by kernel_rfl) trivial) (fun(u12a0,_) _ _=>Tr.I (fun _=>Tr.R ?_) fun _=>Tr.I (fun _=>Tr.I (fun _=>Tr.I (fun _=>Tr.R ?_) fun _=>Tr.R ?_) fun _=>Tr.R ?_) fun _=>Tr.I (fun _=>Tr.I (fun _=>Tr.I (fun _=>Tr.R ?_) fun _=>Tr.R ?_) fun _=>Tr.R ?_) fun _=>Tr.I (fun _=>Tr.I (fun _=>Tr.I (fun _=>Tr.R ?_) fun _=>Tr.R ?_) fun _=>Tr.R ?_) fun _=>Tr.I (fun _=>Tr.I (fun _=>Tr.I (fun _=>Tr.R ?_) fun _=>Tr.R ?_) fun _=>Tr.R ?_) fun _=>Tr.I (fun _=>Tr.I (fun _=>Tr.I (fun _=>Tr.I (fun _=>Tr.R ?_) fun _=>Tr.R ?_) fun _=>Tr.R ?_) fun _=>Tr.I (fun _=>Tr.I (fun _=>Tr.I (fun _=>Tr.R ?_) fun _=>Tr.R ?_) fun _=>Tr.R ?_) fun _=>Tr.R ?_) fun _=>Tr.I (fun _=>Tr.I (fun _=>Tr.I (fun _=>Tr.R ?_) fun _=>Tr.R ?_) fun _=>Tr.R ?_) fun _=>Tr.I (fun _=>Tr.I (fun _=>Tr.I (fun _=>Tr.R ?_) fun _=>Tr.R ?_) fun _=>Tr.R ?_) fun _=>Tr.R ?_)))
  all_goals ((try simp only[Tr.nice,letK]at*)<;>grind)⟩
noncomputable def i_ConnOk_e:=entT st i_ConnOk_x i_ConnOk_o [] (ks:=[.st .conn]) i_ConnOk (fun v=>[(false,[.c (.bool v)])]) Tryz.func167 trivial fun _=>by kernel_rfl
noncomputable def s_PutHalf_o:List (Ent1 Tryz.prog):=[s_HalvesOk_e]
noncomputable def s_PutHalf_x:Fx:=⟨174,Tryz.f174,[(3000003,rA 0 27)],0⟩
noncomputable def s_PutHalf:FT (List Half×Half×Int×Unit) (List Half×Bool) (fun x=>sS x.1) (fun x v=>sS v.1∧(v.1.length:Int)≤x.1.length+1):=⟨fun(x0,x1,x2,_)=>
  .grd (Nat.ble ((2*(0+x0.length)+1024)*96) maxSl)<|
  .grd (Nat.ble ((2*(0+x0.length)+1024)*96) maxSl)<|
  .grd (Nat.ble ((2*(([]++x0).length+1)+1024)*96) maxSl)<|
  .bnd (β:=Bool×Unit) (.ite (decide (x2≤(x0.length:Int))) (.ret (true,()))<|
   .cal s_HalvesOk.c ((([]++x0)++[x1]),()) fun c1=>
   .ret ((!c1),())) fun(u2a0,_)=>
  .ite u2a0 (.ret (([]++x0),false))<|
  .ret ((([]++x0)++[x1]),true),
 fun(x0,x1,x2,_) hp=>by
  refine Tr.Gb ?_ fun _=>Tr.Gb ?_ fun _=>Tr.Gb ?_ fun _=>Tr.B (Q':=fun w=>(w.1=false→(([]++x0)++[x1]).length≤64)) (Tr.I (fun _=>Tr.R ?_) fun _=>Tr.C ?_ fun _ _ _=>Tr.R ?_) (fun(u2a0,_) _ _=>Tr.I (fun _=>Tr.R ?_) fun _=>Tr.R ?_)
  all_goals ((try simp only[Tr.nice,letK]at*)<;>grind)⟩
noncomputable def s_PutHalf_e:=entT st s_PutHalf_x s_PutHalf_o [] (ks:=[.sc (.sl .half),.st .half,.sc (.int .i64)]) s_PutHalf (fun v=>[(false,[sc (.o true) .half v.1]),(false,[.c (.bool v.2)])]) Tryz.func174 trivial fun _=>by kernel_rfl
noncomputable def s_Waits:FT (Conn×Unit) (Bool) (fun x=>sm_conn x.1) (fun _ _=>True):=⟨fun(x0,_)=>
  .cal s_ConnOk.c (x0,()) fun c1=>
  .ite c1 (.ite (x0.state==7) (.ret true)<|
   .ite (x0.state != 8) (.val (s_Unsent.f (x0,())) fun c2=>
    .ret c2)<|
   .ret false)<|
  .ret false,
 fun(x0,_) hp=>by
  refine Tr.C ?_ fun _ _ _=>Tr.F (by kernel_rfl) trivial
  all_goals (grind)⟩
noncomputable def s_Waits_e:=ent0 st Tryz.func187 [s_ConnOk_e,s_Unsent_e] (ks:=[.st .conn]) s_Waits (fun v=>[(false,[.c (.bool v)])]) fun _=>by kernel_rfl
noncomputable def s_AckOf:FT (Conn×Unit) (Segm) (fun x=>sm_conn x.1) (fun x v=>sm_segm v):=⟨fun(x0,_)=>
  .cal s_NextOf.c (x0.s,()) fun c1=>
  .cal s_WindowOf.c (x0.r,()) fun c2=>
  .val (s_NoOptions.f (())) fun c3=>
  .ret (⟨x0.tuple.my,x0.tuple.port,c1,x0.r.next,16,c2,c3,[]⟩:Segm),
 fun(x0,_) hp=>by
  refine Tr.C ?_ fun _ _ _=>Tr.C ?_ fun _ _ _=>Tr.V fun _ _=>Tr.R ?_
  all_goals (grind)⟩
noncomputable def s_AckOf_e:=ent0 st Tryz.func188 [s_NextOf_e,s_WindowOf_e,s_NoOptions_e] (ks:=[.st .conn]) s_AckOf (fun v=>[(true,q_segm v)]) fun _=>by kernel_rfl
noncomputable def s_Rewound:FT (Sndr×Unit) (Sndr) (fun x=>sm_sndr x.1) (fun x v=>sm_sndr v):=⟨fun(x0,_)=>
  .cal s_SenderOk.c (x0,()) fun c1=>
  .ite c1 (.ret ({x0 with sent:=0,finSent:=false}:Sndr))<|
  .ret x0,
 fun(x0,_) hp=>by
  refine Tr.C trivial fun _ _ _=>Tr.I (fun _=>Tr.R ?_) fun _=>Tr.R ?_
  all_goals (grind)⟩
noncomputable def s_Rewound_e:=ent0 st Tryz.func189 [s_SenderOk_e] (ks:=[.st .sndr]) s_Rewound (fun v=>[(true,q_sndr v)]) fun _=>by kernel_rfl
noncomputable def s_Pump_o:List (Ent1 Tryz.prog):=[s_l19Copy_e,s_ConnOk_e,s_MssFor_e,s_NextChunk_e,s_AckOf_e,s_SentOff_e]
def s_Pump_L0_h:Sh:=⟨[(1,false,[.int .i64]),(2,false,[.ptr 0 0]),(4,false,[.ptr 1 0]),(6,false,[.own 2])],[.box [.st .conn [.own 3]],.box [.st .conn [.nil .piec]],.arr .segm false true,.of false true]⟩
noncomputable def s_Pump_x:Fx:=⟨190,Tryz.f190,[(0,la ⟨[1,2,4,6],[],false,0⟩ ⟨[4,5],[],false,0⟩),(3000003,rA 0 25)],0⟩
noncomputable def s_Pump_L0_T (v0:Int)(a:Conn×Conn×List Segm):Tr (Stp (Conn×Conn×List Segm) ((Conn×List Segm))):=
 .val (s_MssFor.f (a.1,())) fun c4=>
 .cal s_NextChunk.c (a.1.s,v0,c4,()) fun c5=>
 .ite (!c5.2) (.ret (.out (a.1,a.2.2)))<|
 .cal s_AckOf.c (a.1,()) fun c6=>
 .ite (!(c5.1.text==[])) (.ite c5.1.fin (.grd (Nat.ble ((2*(a.2.2.length+1)+1024)*104) maxSl)<|
   .val (a.2.2++[({c6 with seq:=c5.1.seq,flags:=(bits .or .i64 (bits .or .i64 c6.flags 8) 1),body:=c5.1.text}:Segm)]) fun l7=>
   .cal s_SentOff.c (a.1.s,c5.1,()) fun c8=>
   .ite (a.1.timer==0) (.ret (.next ((⟨a.1.tuple,a.1.state,c8,a.1.r,a.1.window,a.1.most,a.1.opts,3,a.1.tries⟩:Conn),({a.2.1 with r.held:=[]}:Conn),l7)))<|
   .ret (.next (({a.1 with s.una:=c8.una,s.data:=c8.data,s.sent:=c8.sent,s.fin:=c8.fin,s.finSent:=c8.finSent,s.done:=c8.done}:Conn),({a.2.1 with r.held:=[]}:Conn),l7)))<|
  .grd (Nat.ble ((2*(a.2.2.length+1)+1024)*104) maxSl)<|
  .val (a.2.2++[({c6 with seq:=c5.1.seq,flags:=(bits .or .i64 c6.flags 8),body:=c5.1.text}:Segm)]) fun l9=>
  .cal s_SentOff.c (a.1.s,c5.1,()) fun c10=>
  .ite (a.1.timer==0) (.ret (.next ((⟨a.1.tuple,a.1.state,c10,a.1.r,a.1.window,a.1.most,a.1.opts,3,a.1.tries⟩:Conn),({a.2.1 with r.held:=[]}:Conn),l9)))<|
  .ret (.next (({a.1 with s.una:=c10.una,s.data:=c10.data,s.sent:=c10.sent,s.fin:=c10.fin,s.finSent:=c10.finSent,s.done:=c10.done}:Conn),({a.2.1 with r.held:=[]}:Conn),l9)))<|
 .ite c5.1.fin (.grd (Nat.ble ((2*(a.2.2.length+1)+1024)*104) maxSl)<|
  .val (a.2.2++[({c6 with seq:=c5.1.seq,flags:=(bits .or .i64 c6.flags 1),body:=c5.1.text}:Segm)]) fun l11=>
  .cal s_SentOff.c (a.1.s,c5.1,()) fun c12=>
  .ite (a.1.timer==0) (.ret (.next ((⟨a.1.tuple,a.1.state,c12,a.1.r,a.1.window,a.1.most,a.1.opts,3,a.1.tries⟩:Conn),({a.2.1 with r.held:=[]}:Conn),l11)))<|
  .ret (.next (({a.1 with s.una:=c12.una,s.data:=c12.data,s.sent:=c12.sent,s.fin:=c12.fin,s.finSent:=c12.finSent,s.done:=c12.done}:Conn),({a.2.1 with r.held:=[]}:Conn),l11)))<|
 .grd (Nat.ble ((2*(a.2.2.length+1)+1024)*104) maxSl)<|
 .cal s_SentOff.c (a.1.s,c5.1,()) fun c13=>
 .ite (a.1.timer==0) (.ret (.next ((⟨a.1.tuple,a.1.state,c13,a.1.r,a.1.window,a.1.most,a.1.opts,3,a.1.tries⟩:Conn),({a.2.1 with r.held:=[]}:Conn),(a.2.2++[({c6 with seq:=c5.1.seq,body:=c5.1.text}:Segm)]))))<|
 .ret (.next (({a.1 with s.una:=c13.una,s.data:=c13.data,s.sent:=c13.sent,s.fin:=c13.fin,s.finSent:=c13.finSent,s.done:=c13.done}:Conn),({a.2.1 with r.held:=[]}:Conn),(a.2.2++[({c6 with seq:=c5.1.seq,body:=c5.1.text}:Segm)])))
noncomputable def s_Pump_L0_d:s_Pump_L0_h.V→LW s_Pump_L0_h (Conn×Conn×List Segm) ((Conn×List Segm)):=fun(v0,v1,v2,v3,_)=>⟨(v1,v2,v3),fun a=>(v0,a.1,a.2.1,a.2.2,()),s_Pump_L0_T v0,sgm v1.s,fun _ k p=>k .ret (Sh.enc ⟨[(4,false,[.ptr 0 0]),(5,false,[.own 1])],[.box [.st .conn [.own 2]],.arr .segm false true,.of false true]⟩ (p.1,p.2,()))⟩
set_option maxHeartbeats 4000000 in
theorem s_Pump_L0_s:LS Tryz.prog s_Pump_x [0] (leW 0 s_Pump_L0_h s_Pump_L0_d):=loopW st (orcOf_ok s_Pump_o) _ s_Pump_L0_d [] trivial (by kernel_rfl) (fun _=>by kernel_rfl) fun _ _ _ _ _=>by kernel_rfl
theorem s_Pump_L0_k {v0:Int}{v1 v2:Conn}{v3:List Segm}(h0:sm_conn v1∧sm_conn v2∧sL sm_segm v3∧v3.length+sgm v1.s≤49):(s_Pump_L0_d (v0,v1,v2,v3,())).W (fun p=>sm_conn p.1∧sL sm_segm p.2∧p.2.length≤49):=
 LW.okW (a:=(v1,v2,v3)) (fun a=>sm_conn a.1∧sm_conn a.2.1∧sL sm_segm a.2.2∧a.2.2.length+sgm a.1.s≤49) (fun a=>sgm a.1.s) rfl h0 fun(v1,v2,v3) hv=>by
  refine Tr.V fun c4 hc4=>Tr.C ?_ fun c5 hc5 qc5=>Tr.I (fun b0=>Tr.Ro ?_) fun b0=>Tr.C ?_ fun c6 hc6 qc6=>Tr.I (fun b1=>Tr.I (fun b2=>Tr.Gb ?_ fun g3=>Tr.V fun l7 hl7=>Tr.C ?_ fun c8 hc8 qc8=>Tr.I (fun b4=>Tr.Rn ?_) fun b4=>Tr.Rn ?_) fun b2=>Tr.Gb ?_ fun g3=>Tr.V fun l9 hl9=>Tr.C ?_ fun c10 hc10 qc10=>Tr.I (fun b4=>Tr.Rn ?_) fun b4=>Tr.Rn ?_) fun b1=>Tr.I (fun b2=>Tr.Gb ?_ fun g3=>Tr.V fun l11 hl11=>Tr.C ?_ fun c12 hc12 qc12=>Tr.I (fun b4=>Tr.Rn ?_) fun b4=>Tr.Rn ?_) fun b2=>Tr.Gb ?_ fun g3=>Tr.C ?_ fun c13 hc13 qc13=>Tr.I (fun b4=>Tr.Rn ?_) fun b4=>Tr.Rn ?_
  all_goals ((first|grind|(have tl:∀s:Bytes,s=[]∨0<s.length:=(fun s=>by cases s<;>simp);grind)))
noncomputable def s_Pump:FT (Conn×Int×Unit) (Conn×List Segm) (fun x=>sm_conn x.1) (fun x v=>sm_conn v.1∧sL sm_segm v.2∧v.2.length≤49):=⟨fun(x0,x1,_)=>
  .cal s_l19Copy.c (x0,()) fun c1=>
  .bnd (β:=Bool×Unit) (.cal s_ConnOk.c (c1,()) fun c2=>
   .ite (!c2) (.ret (true,()))<|
   .ite (c1.state==8) (.ret (true,()))<|
   .ret ((c1.state==7),())) fun(u3a0,_)=>
  .ite u3a0 (.ret (c1,[]))<|
  .lp (s_Pump_L0_d (x1,c1,(⟨⟨0,0,0⟩,0,⟨0,[],0,false,false,false⟩,⟨0,[],[],0,false⟩,0,0,⟨0,0,false,false,0,0⟩,0,0⟩:Conn),[],())).lp fun(p14a0,p14a1)=>
  .ret (p14a0,p14a1),
 fun(x0,x1,_) hp=>by
  refine Tr.C ?_ fun c1 _ _=>Tr.B (Q':=fun w=>(w.1=false→SO c1.s∧RO c1.r)) (Tr.C ?_ fun _ _ _=>Tr.I (fun _=>Tr.R ?_) fun _=>Tr.I (fun _=>Tr.R ?_) fun _=>Tr.R ?_) (fun(u3a0,_) _ _=>Tr.I (fun _=>Tr.R ?_) fun _=>Tr.L (s_Pump_L0_k ?_) (fun a=>Empty.elim a) (fun(p14a0,p14a1) _=>Tr.R ?_))
  all_goals ((try simp only[s_Pump_L0_d,LW.lp,LW.cw,Cw.lp,Tr.nice,letK]at*)<;>grind)⟩
noncomputable def s_Pump_e:=entT st s_Pump_x s_Pump_o [(leW 0 s_Pump_L0_h s_Pump_L0_d)] (ks:=[.st .conn,.sc (.int .i64)]) s_Pump (fun v=>[(true,q_conn (.o true) v.1),(false,[sc (.o true) .segm v.2])]) Tryz.func190 ⟨s_Pump_L0_s,trivial⟩ fun _=>by kernel_rfl
noncomputable def s_SegmentText:FT (Segm×Int×Int×Unit) (Bytes) (fun x=>sm_segm x.1) (fun x v=>sS v∧v.length≤1500):=⟨fun(x0,x1,x2,_)=>
  .cal s_SegmentOk.c (x0,()) fun c1=>
  .ite (!c1) (.ret [])<|
  .cal s_OptionsText.c (x0.opts,()) fun c2=>
  .val (IntKind.wrap .i64 ((IntKind.wrap .i64 (20+(c2.length:Int)))+(x0.body.length:Int))) fun e3=>
  .cal s_PseudoHead.c (x1,x2,e3,()) fun c4=>
  .ite (c4==[]) (.ret [])<|
  .cal s_PutWord.c (x0.from_,2,()) fun c5=>
  .cal s_PutWord.c (x0.to,2,()) fun c6=>
  .grd (Nat.ble (c5.length+c6.length) maxStr)<|
  .cal s_PutWord.c (x0.seq,4,()) fun c7=>
  .grd (Nat.ble ((c5++c6).length+c7.length) maxStr)<|
  .cal s_PutWord.c (x0.ack,4,()) fun c8=>
  .grd (Nat.ble (((c5++c6)++c7).length+c8.length) maxStr)<|
  .val (IntKind.wrap .i64 ((IntKind.wrap .i64 (20+(c2.length:Int))).tdiv 4)) fun e9=>
  .cal s_PutWord.c ((IntKind.wrap .i64 (e9*16)),1,()) fun c10=>
  .grd (Nat.ble ((((c5++c6)++c7)++c8).length+c10.length) maxStr)<|
  .cal s_PutWord.c (x0.flags,1,()) fun c11=>
  .grd (Nat.ble (((((c5++c6)++c7)++c8)++c10).length+c11.length) maxStr)<|
  .cal s_PutWord.c (x0.window,2,()) fun c12=>
  .grd (Nat.ble ((((((c5++c6)++c7)++c8)++c10)++c11).length+c12.length) maxStr)<|
  .grd (Nat.ble (2+c2.length) maxStr)<|
  .grd (Nat.ble (([0,0]++c2).length+x0.body.length) maxStr)<|
  .grd (Nat.ble (c4.length+((((((c5++c6)++c7)++c8)++c10)++c11)++c12).length) maxStr)<|
  .grd (Nat.ble ((c4++((((((c5++c6)++c7)++c8)++c10)++c11)++c12)).length+2) maxStr)<|
  .val ((c4++((((((c5++c6)++c7)++c8)++c10)++c11)++c12))++[0,0]) fun e13=>
  .grd (Nat.ble (e13.length+(([0,0]++c2)++x0.body).length) maxStr)<|
  .cal s_SumOf.c ((e13++(([0,0]++c2)++x0.body)),()) fun c14=>
  .cal s_PutWord.c (c14,2,()) fun c15=>
  .grd (Nat.ble (((((((c5++c6)++c7)++c8)++c10)++c11)++c12).length+c15.length) maxStr)<|
  .grd (Nat.ble ((((((((c5++c6)++c7)++c8)++c10)++c11)++c12)++c15).length+(([0,0]++c2)++x0.body).length) maxStr)<|
  .val ((((((((c5++c6)++c7)++c8)++c10)++c11)++c12)++c15)++(([0,0]++c2)++x0.body)) fun e16=>
  .ret e16,
 fun(x0,x1,x2,_) hp=>by
  refine Tr.C trivial fun c1 hc1 qc1=>Tr.I (fun b0=>Tr.R ?_) fun b0=>Tr.C trivial fun c2 hc2 qc2=>Tr.V fun e3 he3=>Tr.C trivial fun c4 hc4 qc4=>Tr.I (fun b1=>Tr.R ?_) fun b1=>Tr.C trivial fun c5 hc5 qc5=>Tr.C trivial fun c6 hc6 qc6=>Tr.Gb ?_ fun g2=>Tr.C trivial fun c7 hc7 qc7=>Tr.Gb ?_ fun g3=>Tr.C trivial fun c8 hc8 qc8=>Tr.Gb ?_ fun g4=>Tr.V fun e9 he9=>Tr.C trivial fun c10 hc10 qc10=>Tr.Gb ?_ fun g5=>Tr.C trivial fun c11 hc11 qc11=>Tr.Gb ?_ fun g6=>Tr.C trivial fun c12 hc12 qc12=>Tr.Gb ?_ fun g7=>Tr.Gb ?_ fun g8=>Tr.Gb ?_ fun g9=>Tr.Gb ?_ fun g10=>Tr.Gb ?_ fun g11=>Tr.V fun e13 he13=>Tr.Gb ?_ fun g12=>Tr.C ?_ fun c14 hc14 qc14=>Tr.C trivial fun c15 hc15 qc15=>Tr.Gb ?_ fun g13=>Tr.Gb ?_ fun g14=>Tr.V fun e16 he16=>Tr.R ?_
  all_goals ((first|(simp only[List.length_append,List.length_cons,List.length_nil,maxStr,sS]at*;omega)|grind))⟩
noncomputable def s_SegmentText_e:=ent0 st Tryz.func192 [s_SegmentOk_e,s_OptionsText_e,s_PseudoHead_e,s_PutWord_e,s_SumOf_e] (ks:=[.st .segm,.sc (.int .i64),.sc (.int .i64)]) s_SegmentText (fun v=>[(false,[.c (.str v)])]) fun _=>by kernel_rfl
noncomputable def i_NextChunk_o:List (Ent1 Tryz.prog):=[i_SenderOk_e,i_flying_e,i_NextOf_e]
noncomputable def i_NextChunk_x:Fx:=⟨232,Tryz.f232,[(3000007,rA 0 68)],0⟩
noncomputable def i_NextChunk:FT (Sndr×Int×Int×Unit) (Chun×Bool) (fun x=>sm_sndr x.1) (fun x v=>sm_chun v.1∧(v.2=true→SO x.1∧(v.1.text.length:Int)+x.1.sent≤x.1.data.length∧x.1.finSent=false∧(v.1.text=[]→v.1.fin=true)∧(v.1.fin=true→x.1.fin=true∧x.1.done=false∧x.1.sent+v.1.text.length=x.1.data.length))):=⟨fun(x0,x1,x2,_)=>
  .cal i_SenderOk.c (x0,()) fun c1=>
  .ite (!c1) (.ret ((⟨0,[],false⟩:Chun),false))<|
  .cal i_flying.c (x0,()) fun c2=>
  .grd (((decide (0≤x0.sent))&&(decide (x0.sent≤(x0.data.length:Int))))&&(decide ((x0.data.length:Int)≤(x0.data.length:Int))))<|
  .val (((x0.data.take ((x0.data.length:Int).toNat)).drop x0.sent.toNat).length:Int) fun e3=>
  .val (β:=Int) (if(IntKind.wrap .i64 ((if x1<(-1)then(-1)else x1)-c2))<(if x2<e3 then x2 else e3)then(IntKind.wrap .i64 ((if x1<(-1)then(-1)else x1)-c2))else(if x2<e3 then x2 else e3)) fun e4=>
  .cal i_NextOf.c (x0,()) fun c5=>
  .grd ((decide (0≤(if 0<e4 then e4 else 0)))&&(decide ((if 0<e4 then e4 else 0)≤(((x0.data.take ((x0.data.length:Int).toNat)).drop x0.sent.toNat).length:Int))))<|
  .val ((((x0.data.take ((x0.data.length:Int).toNat)).drop x0.sent.toNat).take ((if 0<e4 then e4 else 0).toNat)).drop 0) fun e6=>
  .ite x0.fin (.ite (!x0.finSent) (.ite (!x0.done) (.val (((x0.data.take ((x0.data.length:Int).toNat)).drop x0.sent.toNat).length:Int) fun e7=>
     .ite ((if 0<e4 then e4 else 0)==e7) (.bnd (β:=Bool×Unit) (.ite (e6==[]) (.ret ((!(decide ((if 0<e4 then e4 else 0)<(IntKind.wrap .i64 ((if x1<(-1)then(-1)else x1)-c2))))),()))<|
       .ret (false,())) fun(u8a0,_)=>
      .ite u8a0 (.ret ((⟨0,[],false⟩:Chun),false))<|
      .ret ((⟨c5,e6,(decide ((if 0<e4 then e4 else 0)<(IntKind.wrap .i64 ((if x1<(-1)then(-1)else x1)-c2))))⟩:Chun),true))<|
     .bnd (β:=Bool×Unit) (.ite (e6==[]) (.ret (true,()))<|
      .ret (false,())) fun(u9a0,_)=>
     .ite u9a0 (.ret ((⟨0,[],false⟩:Chun),false))<|
     .ret ((⟨c5,e6,false⟩:Chun),true))<|
    .bnd (β:=Bool×Unit) (.ite (e6==[]) (.ret (true,()))<|
     .ret (false,())) fun(u10a0,_)=>
    .ite u10a0 (.ret ((⟨0,[],false⟩:Chun),false))<|
    .ret ((⟨c5,e6,false⟩:Chun),true))<|
   .bnd (β:=Bool×Unit) (.ite (e6==[]) (.ret (true,()))<|
    .ret (false,())) fun(u11a0,_)=>
   .ite u11a0 (.ret ((⟨0,[],false⟩:Chun),false))<|
   .ret ((⟨c5,e6,false⟩:Chun),true))<|
  .bnd (β:=Bool×Unit) (.ite (e6==[]) (.ret (true,()))<|
   .ret (false,())) fun(u12a0,_)=>
  .ite u12a0 (.ret ((⟨0,[],false⟩:Chun),false))<|
  .ret ((⟨c5,e6,false⟩:Chun),true),
 fun(x0,x1,x2,_) hp=>by
  refine Tr.C trivial fun _ _ _=>Tr.I (fun _=>Tr.R ?_) fun _=>Tr.C ?_ fun _ _ _=>Tr.G3 ?_ fun _=>Tr.V fun _ _=>Tr.V fun _ _=>Tr.C ?_ fun _ _ _=>Tr.G2 ?_ fun _=>Tr.V fun _ _=>Tr.I (fun _=>Tr.I (fun _=>Tr.I (fun _=>Tr.V fun _ _=>Tr.I (fun _=>Tr.B (Q':=fun _=>True) (Tr.F (by kernel_rfl) trivial) (fun(u8a0,_) _ _=>Tr.I (fun _=>Tr.R ?_) fun _=>Tr.R ?_)) fun _=>Tr.B (Q':=fun _=>True) (Tr.F (by kernel_rfl) trivial) (fun(u9a0,_) _ _=>Tr.I (fun _=>Tr.R ?_) fun _=>Tr.R ?_)) fun _=>Tr.B (Q':=fun _=>True) (Tr.F (by kernel_rfl) trivial) (fun(u10a0,_) _ _=>Tr.I (fun _=>Tr.R ?_) fun _=>Tr.R ?_)) fun _=>Tr.B (Q':=fun _=>True) (Tr.F (by kernel_rfl) trivial) (fun(u11a0,_) _ _=>Tr.I (fun _=>Tr.R ?_) fun _=>Tr.R ?_)) fun _=>Tr.B (Q':=fun _=>True) (Tr.F (by kernel_rfl) trivial) (fun(u12a0,_) _ _=>Tr.I (fun _=>Tr.R ?_) fun _=>Tr.R ?_)
  all_goals ((try simp only[Tr.nice,letK]at*)<;>grind)⟩
noncomputable def i_NextChunk_e:=entT st i_NextChunk_x i_NextChunk_o [] (ks:=[.st .sndr,.sc (.int .i64),.sc (.int .i64)]) i_NextChunk (fun v=>[(true,q_chun v.1),(false,[.c (.bool v.2)])]) Tryz.func232 trivial fun _=>by kernel_rfl
noncomputable def i_SentOff:FT (Sndr×Chun×Unit) (Sndr) (fun x=>sm_sndr x.1∧sm_chun x.2.1) (fun x v=>sm_sndr v∧(SO x.1→(x.2.1.text.length:Int)+x.1.sent≤x.1.data.length→x.1.finSent=false→(x.2.1.fin=true→x.1.fin=true∧x.1.done=false∧x.1.sent+x.2.1.text.length=x.1.data.length)→v={x.1 with sent:=x.1.sent+x.2.1.text.length,finSent:=x.2.1.fin})):=⟨fun(x0,x1,_)=>
  .ite x0.finSent (.cal i_SenderOk.c (x0,()) fun c1=>
   .ite (!c1) (.ret x0)<|
   .cal i_SenderOk.c (({x0 with sent:=(IntKind.wrap .i64 (x0.sent+(x1.text.length:Int))),finSent:=true}:Sndr),()) fun c2=>
   .ite (!c2) (.ret x0)<|
   .ite x1.fin (.ite (!x0.fin) (.ret x0)<|
    .ite x0.done (.ret x0)<|
    .ret ({x0 with sent:=(IntKind.wrap .i64 (x0.sent+(x1.text.length:Int))),finSent:=true}:Sndr))<|
   .ret ({x0 with sent:=(IntKind.wrap .i64 (x0.sent+(x1.text.length:Int))),finSent:=true}:Sndr))<|
  .cal i_SenderOk.c (x0,()) fun c3=>
  .ite (!c3) (.ret x0)<|
  .cal i_SenderOk.c (({x0 with sent:=(IntKind.wrap .i64 (x0.sent+(x1.text.length:Int))),finSent:=x1.fin}:Sndr),()) fun c4=>
  .ite (!c4) (.ret x0)<|
  .ite x1.fin (.ite (!x0.fin) (.ret x0)<|
   .ite x0.done (.ret x0)<|
   .ret ({x0 with sent:=(IntKind.wrap .i64 (x0.sent+(x1.text.length:Int))),finSent:=x1.fin}:Sndr))<|
  .ret ({x0 with sent:=(IntKind.wrap .i64 (x0.sent+(x1.text.length:Int))),finSent:=x1.fin}:Sndr),
 fun(x0,x1,_) hp=>by
  refine Tr.I (fun _=>Tr.C trivial fun _ _ _=>Tr.I (fun _=>Tr.R ?_) fun _=>Tr.C trivial fun _ _ _=>Tr.I (fun _=>Tr.R ?_) fun _=>Tr.I (fun _=>Tr.I (fun _=>Tr.R ?_) fun _=>Tr.I (fun _=>Tr.R ?_) fun _=>Tr.R ?_) fun _=>Tr.R ?_) fun _=>Tr.C trivial fun _ _ _=>Tr.I (fun _=>Tr.R ?_) fun _=>Tr.C trivial fun _ _ _=>Tr.I (fun _=>Tr.R ?_) fun _=>Tr.I (fun _=>Tr.I (fun _=>Tr.R ?_) fun _=>Tr.I (fun _=>Tr.R ?_) fun _=>Tr.R ?_) fun _=>Tr.R ?_
  all_goals (grind)⟩
noncomputable def i_SentOff_e:=ent0 st Tryz.func234 [i_SenderOk_e] (ks:=[.st .sndr,.st .chun]) i_SentOff (fun v=>[(true,q_sndr v)]) fun _=>by kernel_rfl
noncomputable def i_Waits:FT (Conn×Unit) (Bool) (fun x=>sm_conn x.1) (fun _ _=>True):=⟨fun(x0,_)=>
  .cal i_ConnOk.c (x0,()) fun c1=>
  .ite c1 (.ite (x0.state==7) (.ret true)<|
   .ite (x0.state != 8) (.val (i_Unsent.f (x0,())) fun c2=>
    .ret c2)<|
   .ret false)<|
  .ret false,
 fun(x0,_) hp=>by
  refine Tr.C ?_ fun _ _ _=>Tr.F (by kernel_rfl) trivial
  all_goals (grind)⟩
noncomputable def i_Waits_e:=ent0 st Tryz.func251 [i_ConnOk_e,i_Unsent_e] (ks:=[.st .conn]) i_Waits (fun v=>[(false,[.c (.bool v)])]) fun _=>by kernel_rfl
noncomputable def i_OptionsText_o:List (Ent1 Tryz.prog):=[i_OptionsOk_e,i_PutWord_e]
def i_OptionsText_L0_h:Sh:=⟨[(3,false,[.str])],[]⟩
def i_OptionsText_J9_a:An:=⟨⟨[],[],false,0⟩,⟨[1,2,3],[],false,0⟩,⟨[],[]⟩,[(.normal,⟨[(1,false,[.ptr 0 0]),(2,false,[.str]),(3,false,[.str])],[.box [.st .opti []]]⟩)]⟩
def i_OptionsText_J18_a:An:=⟨⟨[],[],false,0⟩,⟨[1,2,3],[],false,0⟩,⟨[],[]⟩,[(.normal,⟨[(1,false,[.ptr 0 0]),(2,false,[.str]),(3,false,[.str])],[.box [.st .opti []]]⟩)]⟩
def i_OptionsText_J26_a:An:=⟨⟨[],[],false,0⟩,⟨[1,2,3],[],false,0⟩,⟨[],[]⟩,[(.normal,⟨[(1,false,[.ptr 0 0]),(2,false,[.str]),(3,false,[.str])],[.box [.st .opti []]]⟩)]⟩
def i_OptionsText_J30_a:An:=⟨⟨[],[],false,0⟩,⟨[2,3],[],false,0⟩,⟨[],[]⟩,[(.normal,⟨[(2,false,[.str]),(3,false,[.str])],[]⟩)]⟩
noncomputable def i_OptionsText_x:Fx:=⟨258,Tryz.f258,[(0,la ⟨[3],[],false,0⟩ ⟨[2,3],[],false,0⟩),(1000009,i_OptionsText_J9_a),(1000018,i_OptionsText_J18_a),(1000026,i_OptionsText_J26_a),(1000030,i_OptionsText_J30_a)],0⟩
noncomputable def i_OptionsText_L0_T (a:Bytes):Tr (Stp (Bytes) ((Bytes))):=
 .ite (((a.length:Int).tmod 4) != 0) (.grd (Nat.ble (a.length+1) maxStr)<|
  .ret (.next (a++[1])))<|
 .ret (.out a)
noncomputable def i_OptionsText_L0_d:i_OptionsText_L0_h.V→LW i_OptionsText_L0_h (Bytes) ((Bytes)):=fun(v0,_)=>⟨v0,fun a=>(a,()),i_OptionsText_L0_T,(4-v0.length%4)%4,fun _ k p=>k (.exit 0) (Sh.enc ⟨[(2,false,[.undef]),(3,false,[.str])],[]⟩ (p,()))⟩
theorem i_OptionsText_L0_s:LS Tryz.prog i_OptionsText_x [0] (leW 0 i_OptionsText_L0_h i_OptionsText_L0_d):=loopW st (orcOf_ok i_OptionsText_o) _ i_OptionsText_L0_d [] trivial (by kernel_rfl) (fun _=>by kernel_rfl) fun _ _ _ _ _=>by kernel_rfl
theorem i_OptionsText_L0_k {v0:Bytes}(h0:v0.length+(4-v0.length%4)%4≤20):(i_OptionsText_L0_d (v0,())).W (fun p=>p.length≤20):=
 LW.okW (a:=v0) (fun a=>a.length+(4-a.length%4)%4≤20) (fun a=>(4-a.length%4)%4) rfl h0 fun v0 hv=>by
  refine Tr.I (fun _=>Tr.Gb ?_ fun _=>Tr.Rn ?_) fun _=>Tr.Ro ?_
  all_goals (grind)
noncomputable def i_OptionsText:FT (Opti×Unit) (Bytes) (fun _=>True) (fun x v=>sS v∧v.length≤20):=⟨fun(x0,_)=>
  .cal i_OptionsOk.c (x0,()) fun c1=>
  .ite (!c1) (.ret [])<|
  .bnd (β:=Bytes×Bytes×Opti×Unit) (.ite (x0.mss != 0) (.cal i_PutWord.c (x0.mss,2,()) fun c2=>
    .grd (Nat.ble (2+c2.length) maxStr)<|
    .grd (Nat.ble (0+([2,4]++c2).length) maxStr)<|
    .ret ([],([]++([2,4]++c2)),x0,()))<|
   .ret ([],[],x0,())) fun(u3a0,u3a1,u3a2,_)=>
  .bnd (β:=Bytes×Bytes×Opti×Unit) (.ite (u3a2.scale != (-1)) (.cal i_PutWord.c (u3a2.scale,1,()) fun c4=>
    .grd (Nat.ble (2+c4.length) maxStr)<|
    .grd (Nat.ble (u3a1.length+([3,3]++c4).length) maxStr)<|
    .ret (u3a0,(u3a1++([3,3]++c4)),u3a2,()))<|
   .ret (u3a0,u3a1,u3a2,())) fun(u5a0,u5a1,u5a2,_)=>
  .bnd (β:=Bytes×Bytes×Opti×Unit) (.ite u5a2.sack (.grd (Nat.ble (u5a1.length+2) maxStr)<|
    .ret (u5a0,(u5a1++[4,2]),u5a2,()))<|
   .ret (u5a0,u5a1,u5a2,())) fun(u6a0,u6a1,u6a2,_)=>
  .bnd (β:=Bytes×Bytes×Unit) (.ite u6a2.stamp (.cal i_PutWord.c (u6a2.val,4,()) fun c7=>
    .grd (Nat.ble (2+c7.length) maxStr)<|
    .cal i_PutWord.c (u6a2.echo,4,()) fun c8=>
    .grd (Nat.ble (([8,10]++c7).length+c8.length) maxStr)<|
    .grd (Nat.ble (u6a1.length+(([8,10]++c7)++c8).length) maxStr)<|
    .ret (u6a0,(u6a1++(([8,10]++c7)++c8)),()))<|
   .ret (u6a0,u6a1,())) fun(_,u9a1,_)=>
  .lp (i_OptionsText_L0_d (u9a1,())).lp fun p10a0=>
  .ret p10a0,
 fun(x0,_) hp=>by
  refine Tr.C trivial fun c1 hc1 qc1=>Tr.I (fun b0=>Tr.R ?_) fun b0=>Tr.B (Q':=fun w=>sS w.1∧sS w.2.1∧w.2.1.length≤4) (Tr.I (fun b1=>Tr.C trivial fun c2 hc2 qc2=>Tr.Gb ?_ fun g2=>Tr.Gb ?_ fun g3=>Tr.R ?_) fun b1=>Tr.R ?_) (fun(u3a0,u3a1,u3a2,_) hj3 qj3=>Tr.B (Q':=fun w=>sS w.1∧sS w.2.1∧w.2.1.length≤7) (Tr.I (fun b1=>Tr.C trivial fun c4 hc4 qc4=>Tr.Gb ?_ fun g2=>Tr.Gb ?_ fun g3=>Tr.R ?_) fun b1=>Tr.R ?_) (fun(u5a0,u5a1,u5a2,_) hj5 qj5=>Tr.B (Q':=fun w=>sS w.1∧sS w.2.1∧w.2.1.length≤9) (Tr.I (fun b1=>Tr.Gb ?_ fun g2=>Tr.R ?_) fun b1=>Tr.R ?_) (fun(u6a0,u6a1,u6a2,_) hj6 qj6=>Tr.B (Q':=fun w=>sS w.1∧sS w.2.1∧w.2.1.length≤19) (Tr.I (fun b1=>Tr.C trivial fun c7 hc7 qc7=>Tr.Gb ?_ fun g2=>Tr.C trivial fun c8 hc8 qc8=>Tr.Gb ?_ fun g3=>Tr.Gb ?_ fun g4=>Tr.R ?_) fun b1=>Tr.R ?_) (fun(u9a0,u9a1,_) hj9 qj9=>Tr.L (i_OptionsText_L0_k ?_) (fun a=>Empty.elim a) (fun p10a0 hp10=>Tr.R ?_)))))
  all_goals ((try simp only[i_OptionsText_L0_d,LW.lp,LW.cw,Cw.lp,Tr.nice,letK]at*)<;>grind)⟩
noncomputable def i_OptionsText_e:=entT st i_OptionsText_x i_OptionsText_o [(leW 0 i_OptionsText_L0_h i_OptionsText_L0_d)] (ks:=[.st .opti]) i_OptionsText (fun v=>[(false,[.c (.str v)])]) Tryz.func258 ⟨i_OptionsText_L0_s,trivial⟩ fun _=>by kernel_rfl
noncomputable def i_PseudoHead_o:List (Ent1 Tryz.prog):=[i_WordOk_e,i_PutWord_e]
noncomputable def i_PseudoHead_x:Fx:=⟨259,Tryz.f259,[(3000001,rA 0 19)],0⟩
noncomputable def i_PseudoHead:FT (Int×Int×Int×Unit) (Bytes) (fun _=>True) (fun x v=>sS v∧v.length≤20):=⟨fun(x0,x1,x2,_)=>
  .bnd (β:=Bool×Unit) (.cal i_WordOk.c (x0,32,()) fun c1=>
   .ite (!c1) (.ret (true,()))<|
   .cal i_WordOk.c (x1,32,()) fun c2=>
   .ite (!c2) (.ret (true,()))<|
   .cal i_WordOk.c (x2,16,()) fun c3=>
   .ret ((!c3),())) fun(u4a0,_)=>
  .ite u4a0 (.ret [])<|
  .cal i_PutWord.c (x0,4,()) fun c5=>
  .cal i_PutWord.c (x1,4,()) fun c6=>
  .grd (Nat.ble (c5.length+c6.length) maxStr)<|
  .grd (Nat.ble ((c5++c6).length+2) maxStr)<|
  .cal i_PutWord.c (x2,2,()) fun c7=>
  .grd (Nat.ble (((c5++c6)++[0,6]).length+c7.length) maxStr)<|
  .ret (((c5++c6)++[0,6])++c7),
 fun(x0,x1,x2,_) hp=>by
  refine Tr.B (Q':=fun _=>True) (Tr.C trivial fun c1 hc1 qc1=>Tr.I (fun b0=>Tr.R trivial) fun b0=>Tr.C trivial fun c2 hc2 qc2=>Tr.I (fun b1=>Tr.R trivial) fun b1=>Tr.C trivial fun c3 hc3 qc3=>Tr.R trivial) (fun(u4a0,_) hj4 qj4=>Tr.I (fun b0=>Tr.R ?_) fun b0=>Tr.C trivial fun c5 hc5 qc5=>Tr.C trivial fun c6 hc6 qc6=>Tr.Gb ?_ fun g1=>Tr.Gb ?_ fun g2=>Tr.C trivial fun c7 hc7 qc7=>Tr.Gb ?_ fun g3=>Tr.R ?_)
  all_goals ((try simp only[Tr.nice,letK]at*)<;>(first|(simp only[List.length_append,List.length_cons,List.length_nil,maxStr,sS]at*;omega)|grind))⟩
noncomputable def i_PseudoHead_e:=entT st i_PseudoHead_x i_PseudoHead_o [] (ks:=[.sc (.int .i64),.sc (.int .i64),.sc (.int .i64)]) i_PseudoHead (fun v=>[(false,[.c (.str v)])]) Tryz.func259 trivial fun _=>by kernel_rfl
noncomputable def i_PacketText:FT (Pack×Unit) (Bytes) (fun x=>sm_pack x.1) (fun x v=>sS v∧v.length≤1520):=⟨fun(x0,_)=>
  .cal i_PacketOk.c (x0,()) fun c1=>
  .ite (!c1) (.ret [])<|
  .cal i_PutWord.c ((IntKind.wrap .i64 (20+(x0.body.length:Int))),2,()) fun c2=>
  .grd (Nat.ble (2+c2.length) maxStr)<|
  .cal i_PutWord.c (x0.id,2,()) fun c3=>
  .grd (Nat.ble (([69,0]++c2).length+c3.length) maxStr)<|
  .grd (Nat.ble ((([69,0]++c2)++c3).length+2) maxStr)<|
  .cal i_PutWord.c (x0.ttl,1,()) fun c4=>
  .grd (Nat.ble (((([69,0]++c2)++c3)++[0,0]).length+c4.length) maxStr)<|
  .cal i_PutWord.c (x0.proto,1,()) fun c5=>
  .grd (Nat.ble ((((([69,0]++c2)++c3)++[0,0])++c4).length+c5.length) maxStr)<|
  .cal i_PutWord.c (x0.src,4,()) fun c6=>
  .cal i_PutWord.c (x0.dst,4,()) fun c7=>
  .grd (Nat.ble (c6.length+c7.length) maxStr)<|
  .grd (Nat.ble (((((([69,0]++c2)++c3)++[0,0])++c4)++c5).length+2) maxStr)<|
  .grd (Nat.ble ((((((([69,0]++c2)++c3)++[0,0])++c4)++c5)++[0,0]).length+(c6++c7).length) maxStr)<|
  .val ((((((([69,0]++c2)++c3)++[0,0])++c4)++c5)++[0,0])++(c6++c7)) fun e8=>
  .cal i_SumOf.c (e8,()) fun c9=>
  .cal i_PutWord.c (c9,2,()) fun c10=>
  .grd (Nat.ble (((((([69,0]++c2)++c3)++[0,0])++c4)++c5).length+c10.length) maxStr)<|
  .grd (Nat.ble ((((((([69,0]++c2)++c3)++[0,0])++c4)++c5)++c10).length+(c6++c7).length) maxStr)<|
  .val ((((((([69,0]++c2)++c3)++[0,0])++c4)++c5)++c10)++(c6++c7)) fun e11=>
  .grd (Nat.ble (e11.length+x0.body.length) maxStr)<|
  .ret (e11++x0.body),
 fun(x0,_) hp=>by
  refine Tr.C trivial fun c1 hc1 qc1=>Tr.I (fun b0=>Tr.R ?_) fun b0=>Tr.C trivial fun c2 hc2 qc2=>Tr.Gb ?_ fun g1=>Tr.C trivial fun c3 hc3 qc3=>Tr.Gb ?_ fun g2=>Tr.Gb ?_ fun g3=>Tr.C trivial fun c4 hc4 qc4=>Tr.Gb ?_ fun g4=>Tr.C trivial fun c5 hc5 qc5=>Tr.Gb ?_ fun g5=>Tr.C trivial fun c6 hc6 qc6=>Tr.C trivial fun c7 hc7 qc7=>Tr.Gb ?_ fun g6=>Tr.Gb ?_ fun g7=>Tr.Gb ?_ fun g8=>Tr.V fun e8 he8=>Tr.C ?_ fun c9 hc9 qc9=>Tr.C trivial fun c10 hc10 qc10=>Tr.Gb ?_ fun g9=>Tr.Gb ?_ fun g10=>Tr.V fun e11 he11=>Tr.Gb ?_ fun g11=>Tr.R ?_
  all_goals ((first|(simp only[List.length_append,List.length_cons,List.length_nil,maxStr,sS]at*;omega)|grind))⟩
noncomputable def i_PacketText_e:=ent0 st Tryz.func263 [i_PacketOk_e,i_PutWord_e,i_SumOf_e] (ks:=[.st .pack]) i_PacketText (fun v=>[(false,[.c (.str v)])]) fun _=>by kernel_rfl
noncomputable def i_FrameText:FT (Fram×Unit) (Bytes) (fun x=>sm_fram x.1) (fun x v=>sS v∧v.length≤1600):=⟨fun(x0,_)=>
  .cal i_FrameOk.c (x0,()) fun c1=>
  .ite (!c1) (.ret [])<|
  .cal i_PutWord.c (x0.dst,6,()) fun c2=>
  .cal i_PutWord.c (x0.src,6,()) fun c3=>
  .grd (Nat.ble (c2.length+c3.length) maxStr)<|
  .cal i_PutWord.c (x0.type,2,()) fun c4=>
  .grd (Nat.ble ((c2++c3).length+c4.length) maxStr)<|
  .grd (Nat.ble (((c2++c3)++c4).length+x0.body.length) maxStr)<|
  .ret (((c2++c3)++c4)++x0.body),
 fun(x0,_) hp=>by
  refine Tr.C trivial fun c1 hc1 qc1=>Tr.I (fun b0=>Tr.R ?_) fun b0=>Tr.C trivial fun c2 hc2 qc2=>Tr.C trivial fun c3 hc3 qc3=>Tr.Gb ?_ fun g1=>Tr.C trivial fun c4 hc4 qc4=>Tr.Gb ?_ fun g2=>Tr.Gb ?_ fun g3=>Tr.R ?_
  all_goals ((first|(simp only[List.length_append,List.length_cons,List.length_nil,maxStr,sS]at*;omega)|grind))⟩
noncomputable def i_FrameText_e:=ent0 st Tryz.func264 [i_FrameOk_e,i_PutWord_e] (ks:=[.st .fram]) i_FrameText (fun v=>[(false,[.c (.str v)])]) fun _=>by kernel_rfl
noncomputable def s_PacketText:FT (Pack×Unit) (Bytes) (fun x=>sm_pack x.1) (fun x v=>sS v∧v.length≤1520):=⟨fun(x0,_)=>
  .cal s_PacketOk.c (x0,()) fun c1=>
  .ite (!c1) (.ret [])<|
  .cal s_PutWord.c ((IntKind.wrap .i64 (20+(x0.body.length:Int))),2,()) fun c2=>
  .grd (Nat.ble (2+c2.length) maxStr)<|
  .cal s_PutWord.c (x0.id,2,()) fun c3=>
  .grd (Nat.ble (([69,0]++c2).length+c3.length) maxStr)<|
  .grd (Nat.ble ((([69,0]++c2)++c3).length+2) maxStr)<|
  .cal s_PutWord.c (x0.ttl,1,()) fun c4=>
  .grd (Nat.ble (((([69,0]++c2)++c3)++[0,0]).length+c4.length) maxStr)<|
  .cal s_PutWord.c (x0.proto,1,()) fun c5=>
  .grd (Nat.ble ((((([69,0]++c2)++c3)++[0,0])++c4).length+c5.length) maxStr)<|
  .cal s_PutWord.c (x0.src,4,()) fun c6=>
  .cal s_PutWord.c (x0.dst,4,()) fun c7=>
  .grd (Nat.ble (c6.length+c7.length) maxStr)<|
  .grd (Nat.ble (((((([69,0]++c2)++c3)++[0,0])++c4)++c5).length+(c6++c7).length) maxStr)<|
  .cal s_SumOf.c ((((((([69,0]++c2)++c3)++[0,0])++c4)++c5)++(c6++c7)),()) fun c8=>
  .cal s_PutWord.c (c8,2,()) fun c9=>
  .grd (Nat.ble (((((([69,0]++c2)++c3)++[0,0])++c4)++c5).length+c9.length) maxStr)<|
  .grd (Nat.ble ((((((([69,0]++c2)++c3)++[0,0])++c4)++c5)++c9).length+(c6++c7).length) maxStr)<|
  .val ((((((([69,0]++c2)++c3)++[0,0])++c4)++c5)++c9)++(c6++c7)) fun e10=>
  .grd (Nat.ble (e10.length+x0.body.length) maxStr)<|
  .ret (e10++x0.body),
 fun(x0,_) hp=>by
  refine Tr.C trivial fun c1 hc1 qc1=>Tr.I (fun b0=>Tr.R ?_) fun b0=>Tr.C trivial fun c2 hc2 qc2=>Tr.Gb ?_ fun g1=>Tr.C trivial fun c3 hc3 qc3=>Tr.Gb ?_ fun g2=>Tr.Gb ?_ fun g3=>Tr.C trivial fun c4 hc4 qc4=>Tr.Gb ?_ fun g4=>Tr.C trivial fun c5 hc5 qc5=>Tr.Gb ?_ fun g5=>Tr.C trivial fun c6 hc6 qc6=>Tr.C trivial fun c7 hc7 qc7=>Tr.Gb ?_ fun g6=>Tr.Gb ?_ fun g7=>Tr.C ?_ fun c8 hc8 qc8=>Tr.C trivial fun c9 hc9 qc9=>Tr.Gb ?_ fun g8=>Tr.Gb ?_ fun g9=>Tr.V fun e10 he10=>Tr.Gb ?_ fun g10=>Tr.R ?_
  all_goals ((first|(simp only[List.length_append,List.length_cons,List.length_nil,maxStr,sS]at*;omega)|grind))⟩
noncomputable def s_PacketText_e:=ent0 st Tryz.func272 [s_PacketOk_e,s_PutWord_e,s_SumOf_e] (ks:=[.st .pack]) s_PacketText (fun v=>[(false,[.c (.str v)])]) fun _=>by kernel_rfl
noncomputable def s_FrameText:FT (Fram×Unit) (Bytes) (fun x=>sm_fram x.1) (fun x v=>sS v∧v.length≤1600):=⟨fun(x0,_)=>
  .cal s_FrameOk.c (x0,()) fun c1=>
  .ite (!c1) (.ret [])<|
  .cal s_PutWord.c (x0.dst,6,()) fun c2=>
  .cal s_PutWord.c (x0.src,6,()) fun c3=>
  .grd (Nat.ble (c2.length+c3.length) maxStr)<|
  .cal s_PutWord.c (x0.type,2,()) fun c4=>
  .grd (Nat.ble ((c2++c3).length+c4.length) maxStr)<|
  .grd (Nat.ble (((c2++c3)++c4).length+x0.body.length) maxStr)<|
  .ret (((c2++c3)++c4)++x0.body),
 fun(x0,_) hp=>by
  refine Tr.C trivial fun c1 hc1 qc1=>Tr.I (fun b0=>Tr.R ?_) fun b0=>Tr.C trivial fun c2 hc2 qc2=>Tr.C trivial fun c3 hc3 qc3=>Tr.Gb ?_ fun g1=>Tr.C trivial fun c4 hc4 qc4=>Tr.Gb ?_ fun g2=>Tr.Gb ?_ fun g3=>Tr.R ?_
  all_goals ((first|(simp only[List.length_append,List.length_cons,List.length_nil,maxStr,sS]at*;omega)|grind))⟩
noncomputable def s_FrameText_e:=ent0 st Tryz.func273 [s_FrameOk_e,s_PutWord_e] (ks:=[.st .fram]) s_FrameText (fun v=>[(false,[.c (.str v)])]) fun _=>by kernel_rfl
noncomputable def s_Turned_o:List (Ent1 Tryz.prog):=[s_l19Copy_e,s_l21State_e,s_ConnOk_e,s_l1In_e]
noncomputable def s_Turned_x:Fx:=⟨299,Tryz.f299,[(3000003,rA 0 37)],0⟩
noncomputable def s_Turned:FT (Conn×Unit) (Conn) (fun x=>sm_conn x.1) (fun x v=>sm_conn v):=⟨fun(x0,_)=>
  .cal s_l19Copy.c (x0,()) fun c1=>
  .cal s_l21State.c (x0,()) fun c2=>
  .bnd (β:=Bool×Unit) (.cal s_ConnOk.c (({x0 with state:=c2,timer:=0,tries:=0}:Conn),()) fun c3=>
   .ite (!c3) (.ret (true,()))<|
   .val (s_l1In.f (x0.timer,0,4,())) fun c4=>
   .ite (!c4) (.ret (true,()))<|
   .val (s_l1In.f (x0.tries,0,3,())) fun c5=>
   .ret ((!c5),())) fun(u6a0,_)=>
  .ite u6a0 (.cal s_l19Copy.c (x0,()) fun c7=>
   .ret c7)<|
  .ite (c2==x0.state) (.ret ({c1 with state:=c2}:Conn))<|
  .ite (c2==7) (.ite (c2==8) (.ret ({c1 with state:=c2,timer:=0,tries:=0}:Conn))<|
   .ret ({c1 with state:=c2,timer:=4,tries:=0}:Conn))<|
  .ite (c2==8) (.ret ({c1 with state:=c2,timer:=0,tries:=0}:Conn))<|
  .ret ({c1 with state:=c2}:Conn),
 fun(x0,_) hp=>by
  refine Tr.C ?_ fun _ _ _=>Tr.C ?_ fun c2 _ _=>Tr.B (Q':=fun w=>(w.1=false→SO ({x0 with state:=c2,timer:=0,tries:=0}:Conn).s∧RO ({x0 with state:=c2,timer:=0,tries:=0}:Conn).r)) (Tr.C ?_ fun _ _ _=>Tr.I (fun _=>Tr.R ?_) fun _=>Tr.V fun _ _=>Tr.I (fun _=>Tr.R ?_) fun _=>Tr.V fun _ _=>Tr.R ?_) (fun(u6a0,_) _ _=>Tr.I (fun _=>Tr.C ?_ fun _ _ _=>Tr.R ?_) fun _=>Tr.I (fun _=>Tr.R ?_) fun _=>Tr.I (fun _=>Tr.I (fun _=>Tr.R ?_) fun _=>Tr.R ?_) fun _=>Tr.I (fun _=>Tr.R ?_) fun _=>Tr.R ?_)
  all_goals ((try simp only[Tr.nice,letK]at*)<;>grind)⟩
noncomputable def s_Turned_e:=entT st s_Turned_x s_Turned_o [] (ks:=[.st .conn]) s_Turned (fun v=>[(true,q_conn (.o true) v)]) Tryz.func299 trivial fun _=>by kernel_rfl
noncomputable def s_SipWord:FT (Sipr×Int×Unit) (Sipr) (fun _=>True) (fun _ _=>True):=⟨fun(x0,x1,_)=>
  .cal s_SipRound.c (({x0 with d:=(bits .xor .u64 x0.d x1)}:Sipr),()) fun c1=>
  .cal s_SipRound.c (c1,()) fun c2=>
  .ret ({c2 with a:=(bits .xor .u64 c2.a x1)}:Sipr),
 fun(x0,x1,_) hp=>by
  refine Tr.C trivial fun _ _ _=>Tr.C trivial fun _ _ _=>Tr.R trivial⟩
noncomputable def s_SipWord_e:=ent0 st Tryz.func301 [s_SipRound_e] (ks:=[.st .sipr,.sc (.int .u64)]) s_SipWord (fun v=>[(true,q_sipr v)]) fun _=>by kernel_rfl
noncomputable def s_SipEnd:FT (Sipr×Unit) (Int) (fun _=>True) (fun _ _=>True):=⟨fun(x0,_)=>
  .cal s_SipRound.c (({x0 with c:=(bits .xor .u64 x0.c 255)}:Sipr),()) fun c1=>
  .cal s_SipRound.c (c1,()) fun c2=>
  .cal s_SipRound.c (c2,()) fun c3=>
  .cal s_SipRound.c (c3,()) fun c4=>
  .ret (bits .xor .u64 (bits .xor .u64 (bits .xor .u64 c4.a c4.b) c4.c) c4.d),
 fun(x0,_) hp=>by
  refine Tr.C trivial fun _ _ _=>Tr.C trivial fun _ _ _=>Tr.C trivial fun _ _ _=>Tr.C trivial fun _ _ _=>Tr.R trivial⟩
noncomputable def s_SipEnd_e:=ent0 st Tryz.func303 [s_SipRound_e] (ks:=[.st .sipr]) s_SipEnd (fun v=>[(false,[.c (.int .u64 v)])]) fun _=>by kernel_rfl
noncomputable def s_TakeWaiting:FT (Tabl×Unit) (Tabl×Tupl×Bool) (fun x=>sm_tabl x.1) (fun x v=>sm_tabl v.1∧v.1.conns.length=x.1.conns.length∧v.1.waiting.length≤x.1.waiting.length):=⟨fun(x0,_)=>
  .cal s_l25Copy.c (x0,()) fun c1=>
  .ite ((x0.waiting.length:Int)==0) (.ret (c1,(⟨0,0,0⟩:Tupl),false))<|
  .grd ((decide (1≤(x0.waiting.length:Int)))&&(decide ((x0.waiting.length:Int)≤(x0.waiting.length:Int))))<|
  .grd (Nat.ble ((2*(0+((x0.waiting.take ((x0.waiting.length:Int).toNat)).drop 1).length)+1024)*24) maxSl)<|
  .grd (decide (0<(x0.waiting.length:Int)))<|
  .ret ((⟨c1.conns,([]++((x0.waiting.take ((x0.waiting.length:Int).toNat)).drop 1))⟩:Tabl),(x0.waiting.getD 0 (Ty.zero .tupl)),true),
 fun(x0,_) hp=>by
  refine Tr.C ?_ fun _ _ _=>Tr.I (fun _=>Tr.R ?_) fun _=>Tr.G2 ?_ fun _=>Tr.Gb ?_ fun _=>Tr.G1 ?_ fun _=>Tr.R ?_
  all_goals (grind)⟩
noncomputable def s_TakeWaiting_e:=ent0 st Tryz.func323 [s_l25Copy_e] (ks:=[.st .tabl]) s_TakeWaiting (fun v=>[(true,q_tabl (.o true) (.o true) v.1),(true,q_tupl v.2.1),(false,[.c (.bool v.2.2)])]) fun _=>by kernel_rfl
noncomputable def s_Write_o:List (Ent1 Tryz.prog):=[s_l19Copy_e,s_ConnOk_e,s_Queued_e,s_Pump_e]
noncomputable def s_Write_x:Fx:=⟨337,Tryz.f337,[(3000002,rA 0 26)],0⟩
noncomputable def s_Write:FT (Conn×Bytes×Unit) (Conn×Int×List Segm) (fun x=>sm_conn x.1∧sS x.2.1) (fun x v=>sm_conn v.1∧sL sm_segm v.2.2):=⟨fun(x0,x1,_)=>
  .cal s_l19Copy.c (x0,()) fun c1=>
  .bnd (β:=Bool×Unit) (.cal s_ConnOk.c (x0,()) fun c2=>
   .ite (!c2) (.ret (true,()))<|
   .ite (x0.state != 1) (.ret ((x0.state != 4),()))<|
   .ret (false,())) fun(u3a0,_)=>
  .ite u3a0 (.ret (c1,0,[]))<|
  .cal s_Queued.c (x0.s,x1,()) fun c4=>
  .cal s_Pump.c (({c1 with s.una:=c4.1.una,s.data:=c4.1.data,s.sent:=c4.1.sent,s.fin:=c4.1.fin,s.finSent:=c4.1.finSent,s.done:=c4.1.done}:Conn),c1.window,()) fun c5=>
  .ret (c5.1,c4.2,c5.2),
 fun(x0,x1,_) hp=>by
  refine Tr.C ?_ fun _ _ _=>Tr.B (Q':=fun _=>True) (Tr.C ?_ fun _ _ _=>Tr.F (by kernel_rfl) trivial) (fun(u3a0,_) _ _=>Tr.I (fun _=>Tr.R ?_) fun _=>Tr.C ?_ fun _ _ _=>Tr.C ?_ fun _ _ _=>Tr.R ?_)
  all_goals ((try simp only[Tr.nice,letK]at*)<;>grind)⟩
noncomputable def s_Write_e:=entT st s_Write_x s_Write_o [] (ks:=[.st .conn,.sc .str]) s_Write (fun v=>[(true,q_conn (.o true) v.1),(false,[.c (.int .i64 v.2.1)]),(false,[sc (.o true) .segm v.2.2])]) Tryz.func337 trivial fun _=>by kernel_rfl
noncomputable def s_Shut_o:List (Ent1 Tryz.prog):=[s_l19Copy_e,s_ConnOk_e,s_Pump_e]
noncomputable def s_Shut_x:Fx:=⟨338,Tryz.f338,[(3000002,rA 0 19)],0⟩
noncomputable def s_Shut:FT (Conn×Unit) (Conn×List Segm) (fun x=>sm_conn x.1) (fun x v=>sm_conn v.1∧sL sm_segm v.2):=⟨fun(x0,_)=>
  .cal s_l19Copy.c (x0,()) fun c1=>
  .bnd (β:=Bool×Unit) (.cal s_ConnOk.c (x0,()) fun c2=>
   .ite (!c2) (.ret (true,()))<|
   .ite (x0.state != 1) (.ret ((x0.state != 4),()))<|
   .ret (false,())) fun(u3a0,_)=>
  .ite u3a0 (.ret (c1,[]))<|
  .ite (x0.state==4) (.cal s_Pump.c (({c1 with state:=6,s.fin:=true}:Conn),c1.window,()) fun c4=>
   .ret (c4.1,c4.2))<|
  .cal s_Pump.c (({c1 with state:=2,s.fin:=true}:Conn),c1.window,()) fun c5=>
  .ret (c5.1,c5.2),
 fun(x0,_) hp=>by
  refine Tr.C ?_ fun _ _ _=>Tr.B (Q':=fun _=>True) (Tr.C ?_ fun _ _ _=>Tr.F (by kernel_rfl) trivial) (fun(u3a0,_) _ _=>Tr.I (fun _=>Tr.R ?_) fun _=>Tr.I (fun _=>Tr.C ?_ fun _ _ _=>Tr.R ?_) fun _=>Tr.C ?_ fun _ _ _=>Tr.R ?_)
  all_goals ((try simp only[Tr.nice,letK]at*)<;>grind)⟩
noncomputable def s_Shut_e:=entT st s_Shut_x s_Shut_o [] (ks:=[.st .conn]) s_Shut (fun v=>[(true,q_conn (.o true) v.1),(false,[sc (.o true) .segm v.2])]) Tryz.func338 trivial fun _=>by kernel_rfl
noncomputable def s_ReadConn_o:List (Ent1 Tryz.prog):=[s_l19Copy_e,s_ConnOk_e,s_TakenIn_e,s_WindowOf_e,s_AckOf_e]
noncomputable def s_ReadConn_x:Fx:=⟨339,Tryz.f339,[(3000007,rA 0 46)],0⟩
noncomputable def s_ReadConn:FT (Conn×Int×Unit) (Conn×Bytes×List Segm) (fun x=>sm_conn x.1) (fun x v=>sm_conn v.1∧sS v.2.1∧sL sm_segm v.2.2):=⟨fun(x0,x1,_)=>
  .cal s_l19Copy.c (x0,()) fun c1=>
  .cal s_ConnOk.c (x0,()) fun c2=>
  .ite (!c2) (.ret (c1,[],[]))<|
  .cal s_TakenIn.c (x0.r,x1,()) fun c3=>
  .bnd (β:=Bool×Unit) (.cal s_WindowOf.c (x0.r,()) fun c4=>
   .ite (c4==0) (.cal s_WindowOf.c (c3.1,()) fun c5=>
    .ite (decide (0<c5)) (.ite (x0.state != 8) (.ret ((x0.state != 7),()))<|
     .ret (false,()))<|
    .ret (false,()))<|
   .ret (false,())) fun(u6a0,_)=>
  .ite u6a0 (.cal s_AckOf.c (({c1 with r.next:=c3.1.next,r.data:=c3.1.data,r.held:=c3.1.held,r.fin:=c3.1.fin,r.done:=c3.1.done}:Conn),()) fun c7=>
   .ret (({c1 with r.next:=c3.1.next,r.data:=c3.1.data,r.held:=c3.1.held,r.fin:=c3.1.fin,r.done:=c3.1.done}:Conn),c3.2,[c7]))<|
  .ret (({c1 with r.next:=c3.1.next,r.data:=c3.1.data,r.held:=c3.1.held,r.fin:=c3.1.fin,r.done:=c3.1.done}:Conn),c3.2,[]),
 fun(x0,x1,_) hp=>by
  refine Tr.C ?_ fun _ _ _=>Tr.C ?_ fun _ _ _=>Tr.I (fun _=>Tr.R ?_) fun _=>Tr.C ?_ fun _ _ _=>Tr.B (Q':=fun _=>True) (Tr.C ?_ fun _ _ _=>Tr.I (fun _=>Tr.C ?_ fun _ _ _=>Tr.F (by kernel_rfl) trivial) fun _=>Tr.R trivial) (fun(u6a0,_) _ _=>Tr.I (fun _=>Tr.C ?_ fun _ _ _=>Tr.R ?_) fun _=>Tr.R ?_)
  all_goals ((try simp only[Tr.nice,letK]at*)<;>grind)⟩
noncomputable def s_ReadConn_e:=entT st s_ReadConn_x s_ReadConn_o [] (ks:=[.st .conn,.sc (.int .i64)]) s_ReadConn (fun v=>[(true,q_conn (.o true) v.1),(false,[.c (.str v.2.1)]),(false,[sc (.o true) .segm v.2.2])]) Tryz.func339 trivial fun _=>by kernel_rfl
noncomputable def i_FindConn_1:FT (Conn×Tupl×Unit) (Bool) (fun _=>True) (fun _ _=>True):=⟨fun(x0,y1,_)=>
  .ret ((x0.tuple.ip==y1.ip)&&((x0.tuple.port==y1.port)&&((x0.tuple.my==y1.my)&&true))),
 fun(x0,y1,_) hp=>by
  refine Tr.R trivial⟩
noncomputable def i_FindConn_1_e:=entM st ⟨80,Tryz.f80,[],1⟩ [] [] [.st .conn,.wr false [.ptr 0]] [.box [.st .tupl]] (fun x y=>(x.1,y.1.1,())) i_FindConn_1 (fun v=>[(false,[.c (.bool v)])]) (fun x y v=>((y.1.1,()),())) Tryz.func80 (by kernel_rfl) trivial fun _ _=>by kernel_rfl
noncomputable def i_FindHalf_1:FT (Half×Tupl×Unit) (Bool) (fun _=>True) (fun _ _=>True):=⟨fun(x0,y1,_)=>
  .ret ((x0.tuple.ip==y1.ip)&&((x0.tuple.port==y1.port)&&((x0.tuple.my==y1.my)&&true))),
 fun(x0,y1,_) hp=>by
  refine Tr.R trivial⟩
noncomputable def i_FindHalf_1_e:=entM st ⟨82,Tryz.f82,[],1⟩ [] [] [.st .half,.wr false [.ptr 0]] [.box [.st .tupl]] (fun x y=>(x.1,y.1.1,())) i_FindHalf_1 (fun v=>[(false,[.c (.bool v)])]) (fun x y v=>((y.1.1,()),())) Tryz.func82 (by kernel_rfl) trivial fun _ _=>by kernel_rfl
noncomputable def s_Verdict_o:List (Ent1 Tryz.prog):=[s_ConnOk_e,s_SegmentOk_e,s_Has_e,s_WindowOf_e,s_InWindow_e,s_Acceptable_e,s_AckFits_e]
noncomputable def s_Verdict_x:Fx:=⟨39,Tryz.f39,[(3000001,rA 0 5),(3000003,rA 0 19),(3000005,rA 0 30)],0⟩
noncomputable def s_Verdict:FT (Conn×Segm×Unit) (Int) (fun x=>sm_conn x.1∧sm_segm x.2.1) (fun _ _=>True):=⟨fun(x0,x1,_)=>
  .bnd (β:=Bool×Unit) (.cal s_ConnOk.c (x0,()) fun c1=>
   .ite (!c1) (.ret (true,()))<|
   .ite (x0.state==8) (.ret (true,()))<|
   .cal s_SegmentOk.c (x1,()) fun c2=>
   .ret ((!c2),())) fun(u3a0,_)=>
  .ite u3a0 (.ret 1)<|
  .bnd (β:=Bool×Unit) (.val (s_Has.f (x1,4,())) fun c4=>
   .ite c4 (.ret ((x1.seq==x0.r.next),()))<|
   .ret (false,())) fun(u5a0,_)=>
  .ite u5a0 (.ret 2)<|
  .bnd (β:=Bool×Unit) (.val (s_Has.f (x1,4,())) fun c6=>
   .ite c6 (.cal s_WindowOf.c (x0.r,()) fun c7=>
    .val (s_InWindow.f (x1.seq,x0.r.next,c7,())) fun c8=>
    .ret (c8,()))<|
   .ret (false,())) fun(u9a0,_)=>
  .ite u9a0 (.ret 3)<|
  .val (s_Has.f (x1,4,())) fun c10=>
  .ite c10 (.ret 1)<|
  .val (s_Has.f (x1,2,())) fun c11=>
  .ite c11 (.ret 3)<|
  .cal s_Acceptable.c (x0,x1,()) fun c12=>
  .ite (!c12) (.ret 4)<|
  .val (s_Has.f (x1,16,())) fun c13=>
  .ite (!c13) (.ret 1)<|
  .cal s_AckFits.c (x0,x1.ack,()) fun c14=>
  .ite (!c14) (.ret 3)<|
  .ret 5,
 fun(x0,x1,_) hp=>by
  refine Tr.B (Q':=fun w=>(w.1=false→SO x0.s∧RO x0.r∧x1.body.length≤1420)) (Tr.C ?_ fun _ _ _=>Tr.I (fun _=>Tr.R ?_) fun _=>Tr.I (fun _=>Tr.R ?_) fun _=>Tr.C trivial fun _ _ _=>Tr.R ?_) (fun(u3a0,_) _ _=>Tr.I (fun _=>Tr.R trivial) fun _=>Tr.B (Q':=fun _=>True) (Tr.F (by kernel_rfl) trivial) (fun(u5a0,_) _ _=>Tr.I (fun _=>Tr.R trivial) fun _=>Tr.B (Q':=fun _=>True) (Tr.V fun _ _=>Tr.I (fun _=>Tr.C ?_ fun _ _ _=>Tr.F (by kernel_rfl) trivial) fun _=>Tr.R trivial) (fun(u9a0,_) _ _=>Tr.I (fun _=>Tr.R trivial) fun _=>Tr.V fun _ _=>Tr.I (fun _=>Tr.R trivial) fun _=>Tr.V fun _ _=>Tr.I (fun _=>Tr.R trivial) fun _=>Tr.C ?_ fun _ _ _=>Tr.I (fun _=>Tr.R trivial) fun _=>Tr.V fun _ _=>Tr.I (fun _=>Tr.R trivial) fun _=>Tr.C ?_ fun _ _ _=>Tr.F (by kernel_rfl) trivial)))
  all_goals ((try simp only[Tr.nice,letK]at*)<;>grind)⟩
noncomputable def s_Verdict_e:=entT st s_Verdict_x s_Verdict_o [] (ks:=[.st .conn,.st .segm]) s_Verdict (fun v=>[(false,[.c (.int .i64 v)])]) Tryz.func39 trivial fun _=>by kernel_rfl
noncomputable def s_l26Copy:FT (Door×Unit) (Door) (fun x=>sm_door x.1) (fun x v=>sm_door v∧v.table.conns.length=x.1.table.conns.length∧v.table.waiting.length=x.1.table.waiting.length∧v.halves=x.1.halves):=⟨fun(x0,_)=>
  .cal s_l13Copy.c (x0.keys,()) fun c1=>
  .grd (Nat.ble ((2*(0+x0.halves.length)+1024)*96) maxSl)<|
  .cal s_l25Copy.c (x0.table,()) fun c2=>
  .ret (⟨x0.port,x0.clock,c1,x0.limits,([]++x0.halves),c2,x0.chal⟩:Door),
 fun(x0,_) hp=>by
  refine Tr.C ?_ fun _ _ _=>Tr.Gb ?_ fun _=>Tr.C ?_ fun _ _ _=>Tr.R ?_
  all_goals (grind)⟩
noncomputable def s_l26Copy_e:=ent0 st Tryz.func60 [s_l13Copy_e,s_l25Copy_e] (ks:=[.st .door]) s_l26Copy (fun v=>[(true,q_door (.o true) (.o true) (.o true) (.o true) (.o true) v)]) fun _=>by kernel_rfl
noncomputable def s_l26Reset:FT (Door×Segm×Unit) (Door×List Segm×Int) (fun x=>sm_door x.1∧sm_segm x.2.1) (fun x v=>sm_door v.1∧sL sm_segm v.2.1):=⟨fun(x0,x1,_)=>
  .cal s_ResetFor.c (x1,()) fun c1=>
  .ite (!c1.2) (.cal s_l26Copy.c (x0,()) fun c2=>
   .ret (c2,[],0))<|
  .cal s_l26Copy.c (x0,()) fun c3=>
  .ret (c3,[c1.1],0),
 fun(x0,x1,_) hp=>by
  refine Tr.C ?_ fun _ _ _=>Tr.I (fun _=>Tr.C ?_ fun _ _ _=>Tr.R ?_) fun _=>Tr.C ?_ fun _ _ _=>Tr.R ?_
  all_goals (grind)⟩
noncomputable def s_l26Reset_e:=ent0 st Tryz.func61 [s_ResetFor_e,s_l26Copy_e] (ks:=[.st .door,.st .segm]) s_l26Reset (fun v=>[(true,q_door (.o true) (.o true) (.o true) (.o true) (.o true) v.1),(false,[sc (.o true) .segm v.2.1]),(false,[.c (.int .i64 v.2.2)])]) fun _=>by kernel_rfl
noncomputable def s_TableOk_o:List (Ent1 Tryz.prog):=[s_LimitsOk_e,s_ConnOk_e,s_FindConn_e,s_l25Waits_e]
def s_TableOk_L0_h:Sh:=⟨[(2,false,[.ptr 0 0]),(5,false,[.int .i64])],[.box [.st .tabl [.sl .arg,.sl .arg]]]⟩
def s_TableOk_L1_h:Sh:=⟨[(2,false,[.ptr 0 0]),(6,false,[.int .i64])],[.box [.st .tabl [.sl .arg,.sl .arg]]]⟩
noncomputable def s_TableOk_x:Fx:=⟨92,Tryz.f92,[(0,la ⟨[2,5],[],false,0⟩ ⟨[2,4],[],false,0⟩),(2,la ⟨[2,6],[],false,0⟩ ⟨[4],[],false,0⟩),(3000001,rA 0 25)],0⟩
noncomputable def s_TableOk_L0_T (v1:Tabl)(v0:Int)(a:Unit):Tr (Stp (Unit) ((Unit))):=
 .grd ((decide (0≤v0))&&(decide (v0<(v1.conns.length:Int))))<|
 .cal s_ConnOk.c ((v1.conns.getD v0.toNat (Ty.zero .conn)),()) fun c3=>
 .ite (!c3) (.ret (.out ()))<|
 .grd ((decide (0≤v0))&&(decide (v0<(v1.conns.length:Int))))<|
 .cal s_FindConn.c (v1,(v1.conns.getD v0.toNat (Ty.zero .conn)).tuple,()) fun c4=>
 .ite (c4 != v0) (.ret (.out ()))<|
 .ret (.next ())
noncomputable def s_TableOk_L0_d:s_TableOk_L0_h.V→LC s_TableOk_L0_h (Unit) ((Unit)) (((Unit))⊕(Int×Unit)):=fun(v0,v1,_)=>⟨v0,(),fun v0 _=>(v0,v1,()),fun v0 _=>(decide (v0<(v1.conns.length:Int))),s_TableOk_L0_T v1,up,1,(Int.toNat ((v1.conns.length:Int)-v0)),.inl,fun i a=> .inr (i,a),fun _ k w=>Sum.elim (fun _=>k .ret (Sh.enc ⟨[(2,false,[.ptr 0 0]),(4,false,[.bool])],[.box [.st .tabl [.sl .arg,.sl .arg]]]⟩ (false,v1,()))) (fun _=>k (.exit 0) (Sh.enc ⟨[(2,false,[.ptr 0 0]),(4,false,[.undef])],[.box [.st .tabl [.sl .arg,.sl .arg]]]⟩ (v1,()))) w⟩
theorem s_TableOk_L0_s:LS Tryz.prog s_TableOk_x [0] (leC 0 s_TableOk_L0_h s_TableOk_L0_d):=loopC st (orcOf_ok s_TableOk_o) _ s_TableOk_L0_d [] trivial (by kernel_rfl) (fun _=>by kernel_rfl) fun _ _ _ _ _ _=>by kernel_rfl
theorem s_TableOk_L0_k {v0:Int}{v1:Tabl}(h0:0≤v0)(h1:(v1.conns.length:Int)≤4611686018427387904)(h2:sm_tabl v1):(s_TableOk_L0_d (v0,v1,())).U (v1.conns.length:Int) (fun _ _=>True) (fun _=>True):=
 LC.okU (i:=v0) (a:=()) (fun _ _=>rfl) (fun _=>rfl) rfl h0 h1 trivial fun v0 _ hj hk hv=>by
  refine Tr.G2 ?_ fun _=>Tr.C ?_ fun _ _ _=>Tr.I (fun _=>Tr.Ro trivial) fun _=>Tr.G2 ?_ fun _=>Tr.C ?_ fun _ _ _=>Tr.Z (by kernel_rfl)
  all_goals (grind)
noncomputable def s_TableOk_L1_T (v1:Tabl)(v0:Int)(a:Unit):Tr (Stp (Unit) ((Unit))):=
 .grd ((decide (0≤v0))&&(decide (v0≤(v1.waiting.length:Int))))<|
 .grd ((decide (0≤v0))&&(decide (v0<(v1.waiting.length:Int))))<|
 .cal s_l25Waits.c (((v1.waiting.take v0.toNat).drop 0),(v1.waiting.getD v0.toNat (Ty.zero .tupl)),()) fun c6=>
 .ite c6 (.ret (.out ()))<|
 .grd ((decide (0≤v0))&&(decide (v0<(v1.waiting.length:Int))))<|
 .cal s_FindConn.c (v1,(v1.waiting.getD v0.toNat (Ty.zero .tupl)),()) fun c7=>
 .ite (decide (c7<0)) (.ret (.out ()))<|
 .ret (.next ())
noncomputable def s_TableOk_L1_d:s_TableOk_L1_h.V→LC s_TableOk_L1_h (Unit) ((Unit)) (((Unit))⊕(Int×Unit)):=fun(v0,v1,_)=>⟨v0,(),fun v0 _=>(v0,v1,()),fun v0 _=>(decide (v0<(v1.waiting.length:Int))),s_TableOk_L1_T v1,up,1,(Int.toNat ((v1.waiting.length:Int)-v0)),.inl,fun i a=> .inr (i,a),fun _ k w=>Sum.elim (fun _=>k .ret (Sh.enc ⟨[(4,false,[.bool])],[]⟩ (false,()))) (fun _=>k (.exit 2) (Sh.enc ⟨[(4,false,[.undef])],[]⟩ ())) w⟩
theorem s_TableOk_L1_s:LS Tryz.prog s_TableOk_x [1] (leC 2 s_TableOk_L1_h s_TableOk_L1_d):=loopC st (orcOf_ok s_TableOk_o) _ s_TableOk_L1_d [] trivial (by kernel_rfl) (fun _=>by kernel_rfl) fun _ _ _ _ _ _=>by kernel_rfl
theorem s_TableOk_L1_k {v0:Int}{v1:Tabl}(h0:0≤v0)(h1:(v1.waiting.length:Int)≤4611686018427387904)(h2:sm_tabl v1):(s_TableOk_L1_d (v0,v1,())).U (v1.waiting.length:Int) (fun _ _=>True) (fun _=>True):=
 LC.okU (i:=v0) (a:=()) (fun _ _=>rfl) (fun _=>rfl) rfl h0 h1 trivial fun v0 _ hj hk hv=>by
  refine Tr.G2 ?_ fun _=>Tr.G2 ?_ fun _=>Tr.C ?_ fun _ _ _=>Tr.I (fun _=>Tr.Ro trivial) fun _=>Tr.G2 ?_ fun _=>Tr.C ?_ fun _ _ _=>Tr.Z (by kernel_rfl)
  all_goals (grind)
noncomputable def s_TableOk:FT (Tabl×Limi×Unit) (Bool) (fun x=>wS x.1.conns∧smE sm_conn x.1.conns∧wS x.1.waiting) (fun x v=>(v=true→x.1.conns.length≤16∧x.1.waiting.length≤16)):=⟨fun(x0,x1,_)=>
  .bnd (β:=Bool×Unit) (.cal s_LimitsOk.c (x1,()) fun c1=>
   .ite (!c1) (.ret (true,()))<|
   .ite (decide (x1.conns<(x0.conns.length:Int))) (.ret (true,()))<|
   .ret ((decide (x1.waiting<(x0.waiting.length:Int))),())) fun(u2a0,_)=>
  .ite u2a0 (.ret false)<|
  .lp (s_TableOk_L0_d (0,x0,())).lp fun w5=> .sum w5 (fun _=>
  .ret false)<|
  fun _=>
  .lp (s_TableOk_L1_d (0,x0,())).lp fun w8=> .sum w8 (fun _=>
  .ret false)<|
  fun _=>
  .ret true,
 fun(x0,x1,_) hp=>by
  refine Tr.B (Q':=fun w=>(w.1=false→x1.halves≤64∧x1.waiting≤16∧x1.conns≤16)) (Tr.C trivial fun _ _ _=>Tr.I (fun _=>Tr.R ?_) fun _=>Tr.I (fun _=>Tr.R ?_) fun _=>Tr.R ?_) (fun(u2a0,_) _ _=>Tr.I (fun _=>Tr.R ?_) fun _=>Tr.L (s_TableOk_L0_k ?_ ?_ ?_) (fun _ _=>Tr.Sr (Tr.L (s_TableOk_L1_k ?_ ?_ ?_) (fun _ _=>Tr.Sr (Tr.R ?_)) (fun _ _=>Tr.Sl (Tr.R ?_)))) (fun _ _=>Tr.Sl (Tr.R ?_)))
  all_goals ((try simp only[s_TableOk_L0_d,s_TableOk_L1_d,LC.lp,LC.ct,Ct.lp,Tr.nice,letK]at*)<;>grind)⟩
noncomputable def s_TableOk_e:=entT st s_TableOk_x s_TableOk_o [(leC 0 s_TableOk_L0_h s_TableOk_L0_d),(leC 2 s_TableOk_L1_h s_TableOk_L1_d)] (ks:=[.st .tabl,.st .limi]) s_TableOk (fun v=>[(false,[.c (.bool v)])]) Tryz.func92 ⟨s_TableOk_L0_s,s_TableOk_L1_s,trivial⟩ fun _=>by kernel_rfl
noncomputable def s_l28Copy:FT (Stac×Unit) (Stac) (fun x=>sm_stac x.1) (fun x v=>sm_stac v):=⟨fun(x0,_)=>
  .cal s_l16Copy.c (x0.link,()) fun c1=>
  .cal s_l26Copy.c (x0.door,()) fun c2=>
  .ret (⟨c1,c2⟩:Stac),
 fun(x0,_) hp=>by
  refine Tr.C ?_ fun _ _ _=>Tr.C ?_ fun _ _ _=>Tr.R ?_
  all_goals (grind)⟩
noncomputable def s_l28Copy_e:=ent0 st Tryz.func103 [s_l16Copy_e,s_l26Copy_e] (ks:=[.st .stac]) s_l28Copy (fun v=>[(true,q_stac (.o true) (.o true) (.o true) (.o true) (.o true) (.o true) v)]) fun _=>by kernel_rfl

end
end Go.Proofs.YtjejapbinelgeaaGreat
