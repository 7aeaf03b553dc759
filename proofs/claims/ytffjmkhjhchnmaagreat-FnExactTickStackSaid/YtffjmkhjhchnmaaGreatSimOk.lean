/- Every operation that the executor runs. -/
import Derived.Test.YtffjmkhjhchnmaaGreatCall2
set_option linter.unusedVariables false
set_option linter.unusedSimpArgs false
namespace Go.Proofs.YtffjmkhjhchnmaaGreat
open Go Go.RowKit
section
variable {w0:World} {mo:gj} {n:Nat} {I0:Nat→Prop} {te:TE} {P:Program}
theorem Qw (hte:fQ te P=true)(o:Oper)(base:Nat)(s:FSt)(a:Act)(w:World)(e:Eff)(K:Act→World→Prop)(Q:Exit→Act→World→Prop)
  (hr:aU (kI P) s (dJ te base o.op) e)(hid:∀id∈(au base e.new).map (·.1),s.obj id=none)(hS:ui w0 mo n I0 s a w)(hd:∀d,o.dst=some d→d<n)
  (hK:∀a' w',ui w0 mo n I0 (s.wr o.dst e.val (e.upd++au base e.new)) a' w'→K a' w'):o.wp P a w K Q:=by
 obtain⟨I,M,h⟩:=hS
 cases hop:o.op with
 |move x=>rw[hop]at hr;exact(GZ h (.inl hop) hr).wp hd hK
 |assign x=>rw[hop]at hr;exact(GZ h (.inr hop) hr).wp hd hK
 |pick c x y=>rw[hop]at hr;exact(Oh h hop hr).wp hd hK
 |alloc t=>rw[hop]at hr;exact(Lr hte h hop hr hid).wp hd hK
 |box t x=>rw[hop]at hr;exact(OM h hop hr hid).wp hd hK
 |build t parts=>rw[hop]at hr;exact(LU hte h hop hr).wp hd hK
 |buildSlice t len parts=>rw[hop]at hr;exact(CD hte h hop hr hid).wp hd hK
 |load t x=>rw[hop]at hr;exact(ML hte h hop hr).wp hd hK
 |store t x y=>rw[hop]at hr;exact(Mu hte h hop hr).wp hd hK
 |binOp op t x y t'=>rw[hop]at hr;exact(L3 hte h hop hr).wp hd hK
 |unOp op t x=>rw[hop]at hr;exact(MM h hop hr).wp hd hK
 |convert t u x=>rw[hop]at hr;exact(Hj hte h hop hr hid).wp hd hK
 |makeSlice t x y=>rw[hop]at hr;exact(D3 hte h hop hr hid).wp hd hK
 |slice t x lo hi mx=>rw[hop]at hr;exact(L1 hte h hop hr hid).wp hd hK
 |fieldAddr t x f=>rw[hop]at hr;exact(DD hte h hop hr).wp hd hK
 |indexAddr t x y=>rw[hop]at hr;exact(Dd hte h hop hr).wp hd hK
 |index t x y=>rw[hop]at hr;exact(L0 hte h hop hr).wp hd hK
 |extract x i=>rw[hop]at hr;exact(I7 h hop hr).wp hd hK
 |nilCheck x=>rw[hop]at hr;exact(Fm h hop hr).wp hd hK
 |makeFunc f first captured=>
  rw[hop]at hr
  cases f with
  |func f=>exact(Gq h hop hr).wp hd hK
  |_=>exact hr.fail.elim
 |call c=>
  rw[hop]at hr
  obtain⟨callee,args,tys⟩:=c
  cases callee with
  |builtin b=>
   cases b with
   |len=>exact(OA hte h hop hr).wp hd hK
   |min=>exact(OK h hop hr).wp hd hK
   |max=>exact(OE h hop hr).wp hd hK
   |append=>exact(KF hte h hop hr hid).wp hd hK
   |copy=>exact(NN hte h hop hr).wp hd hK
   |clear=>exact(Mr hte h hop hr).wp hd hK
   |_=>exact hr.fail.elim
  |invoke _ _=>exact hr.fail.elim
  |value x=>
   cases x with
   |func f=>
    refine Hw (us:=[]) h (ids:=[]) trivial hr hid (args.map a.eval) (by simp) ?_ hd hK
    have:callFunc f (args.map a.eval)=callFunc f (#[]++args.map a.eval++ #[]):=by simp
    rw[this]
    simp only[execOp,hop]
    rfl
   |tmp t=>
    obtain⟨c,hc,hr⟩:=bR h hr
    cases c with
    |fn f ids=>
     obtain⟨us,hv,hu⟩:=hc
     refine Hw (us:=us.toList) h (ids:=ids) hu hr hid (args.map a.eval++us) (by simp) ?_ hd hK
     have:callFunc f (args.map a.eval++us)=callFunc f (#[]++args.map a.eval++us):=by simp
     rw[this]
     simp only[execOp,hop,resolve,hv]
     rfl
    |_=>exact hr.fail.elim
   |_=>exact hr.fail.elim
 |_=>rw[hop]at hr;exact hr.fail.elim
theorem N2 (hte:fQ te P=true)(w0:World)(mo:gj)(n:Nat)(I0:Nat→Prop):SimOk P (kI P) te n (ui w0 mo n I0) where
 op o base s a w tr ir e K Q hr hid _ hS hd hK:=Qw hte o base s a w e K Q ⟨tr,ir,hr⟩ hid hS hd hK
 skip dst s a w:=by
  rintro⟨I,M,h⟩ hd
  exact⟨I,M,h.put hd ⟨.skipped,rfl,rfl⟩⟩
 skp s a w t:=by
  rintro⟨I,M,h⟩ ht
  have:=h.tmps t
  rw[ht]at this
  obtain⟨c,hc,hv⟩:=this
  cases hc
  exact hv
 bool s a w t b:=by
  rintro⟨I,M,h⟩ ht
  have:=h.tmps t
  rw[ht]at this
  obtain⟨c,hc,hv⟩:=this
  cases hc
  simp only[aA]at hv
  cases hx:a.tmps[t]? with
  |none=>
   have:a.tmps.getD t undef=undef:=by simp[Array.getD_eq_getD_getElem?,hx]
   rw[this]at hv;cases hv
  |some v=>
   have:a.tmps.getD t undef=v:=by simp[Array.getD_eq_getD_getElem?,hx]
   rw[←this,hv]
 drew s a w:=by
  rintro⟨I,M,h⟩
  exact⟨I,M,h.drew⟩
end
end Go.Proofs.YtffjmkhjhchnmaaGreat
