/- Every operation that the executor runs. -/
import Derived.Test.YtfpdenjmlnhnnaaGreatCall2
set_option linter.unusedVariables false
set_option linter.unusedSimpArgs false
namespace Go.Proofs.YtfpdenjmlnhnnaaGreat
open Go Go.RowKit
section
variable {w0:World} {mo:o8} {n:Nat} {I0:Nat→Prop} {te:TE} {P:Program}
theorem adu (hte:jy te P=true)(o:Oper)(base:Nat)(s:FSt)(a:Act)(w:World)(e:Eff)(K:Act→World→Prop)(Q:Exit→Act→World→Prop)
  (hr:bF (tA P) s (fj te base o.op) e)(hid:∀id∈(aR base e.new).map (·.1),s.obj id=none)(hS:C0 w0 mo n I0 s a w)(hd:∀d,o.dst=some d→d<n)
  (hK:∀a' w',C0 w0 mo n I0 (s.wr o.dst e.val (e.upd++aR base e.new)) a' w'→K a' w'):o.wp P a w K Q:=by
 obtain⟨I,M,h⟩:=hS
 cases hop:o.op with
 |move x=>rw[hop]at hr;exact(Qd h (.inl hop) hr).wp hd hK
 |assign x=>rw[hop]at hr;exact(Qd h (.inr hop) hr).wp hd hK
 |pick c x y=>rw[hop]at hr;exact(ZR h hop hr).wp hd hK
 |alloc t=>rw[hop]at hr;exact(Xp hte h hop hr hid).wp hd hK
 |box t x=>rw[hop]at hr;exact(abP h hop hr hid).wp hd hK
 |build t parts=>rw[hop]at hr;exact(Yd hte h hop hr).wp hd hK
 |buildSlice t len parts=>rw[hop]at hr;exact(HE hte h hop hr hid).wp hd hK
 |load t x=>rw[hop]at hr;exact(aab hte h hop hr).wp hd hK
 |store t x y=>rw[hop]at hr;exact(Yu hte h hop hr).wp hd hK
 |binOp op t x y t'=>rw[hop]at hr;exact(Ys hte h hop hr).wp hd hK
 |unOp op t x=>rw[hop]at hr;exact(ZG h hop hr).wp hd hK
 |convert t u x=>rw[hop]at hr;exact(QZ hte h hop hr hid).wp hd hK
 |makeSlice t x y=>rw[hop]at hr;exact(Ll hte h hop hr hid).wp hd hK
 |slice t x lo hi mx=>rw[hop]at hr;exact(WN hte h hop hr hid).wp hd hK
 |fieldAddr t x f=>rw[hop]at hr;exact(Lo hte h hop hr).wp hd hK
 |indexAddr t x y=>rw[hop]at hr;exact(Ly hte h hop hr).wp hd hK
 |index t x y=>rw[hop]at hr;exact(Yv hte h hop hr).wp hd hK
 |extract x i=>rw[hop]at hr;exact(RU h hop hr).wp hd hK
 |nilCheck x=>rw[hop]at hr;exact(O0 h hop hr).wp hd hK
 |makeFunc f first captured=>
  rw[hop]at hr
  cases f with
  |func f=>exact(OI h hop hr).wp hd hK
  |_=>exact hr.fail.elim
 |call c=>
  rw[hop]at hr
  obtain⟨callee,args,tys⟩:=c
  cases callee with
  |builtin b=>
   cases b with
   |len=>exact(abr hte h hop hr).wp hd hK
   |min=>exact(abY h hop hr).wp hd hK
   |max=>exact(aby h hop hr).wp hd hK
   |append=>exact(UP hte h hop hr hid).wp hd hK
   |copy=>exact(Zc hte h hop hr).wp hd hK
   |clear=>exact(XQ hte h hop hr).wp hd hK
   |_=>exact hr.fail.elim
  |invoke _ _=>exact hr.fail.elim
  |value x=>
   cases x with
   |func f=>
    refine P8 (us:=[]) h (ids:=[]) trivial hr hid (args.map a.eval) (by simp) ?_ hd hK
    have:callFunc f (args.map a.eval)=callFunc f (#[]++args.map a.eval++ #[]):=by simp
    rw[this]
    simp only[execOp,hop]
    rfl
   |tmp t=>
    obtain⟨c,hc,hr⟩:=cB h hr
    cases c with
    |fn f ids=>
     obtain⟨us,hv,hu⟩:=hc
     refine P8 (us:=us.toList) h (ids:=ids) hu hr hid (args.map a.eval++us) (by simp) ?_ hd hK
     have:callFunc f (args.map a.eval++us)=callFunc f (#[]++args.map a.eval++us):=by simp
     rw[this]
     simp only[execOp,hop,resolve,hv]
     rfl
    |_=>exact hr.fail.elim
   |_=>exact hr.fail.elim
 |_=>rw[hop]at hr;exact hr.fail.elim
theorem ZK (hte:jy te P=true)(w0:World)(mo:o8)(n:Nat)(I0:Nat→Prop):SimOk P (tA P) te n (C0 w0 mo n I0) where
 op o base s a w tr ir e K Q hr hid _ hS hd hK:=adu hte o base s a w e K Q ⟨tr,ir,hr⟩ hid hS hd hK
 skip dst s a w:=by
  rintro⟨I,M,h⟩ hd
  exact⟨I,M,h.put hd ⟨.skipped,rfl,rfl⟩⟩
 skp s a w t:=by
  rintro⟨I,M,h⟩ ht
  have:=h.tmps t
  rw[ht]at this
  obtain⟨c,hc,hv⟩:=this
  cases hc
  exact hv
 bool s a w t b:=by
  rintro⟨I,M,h⟩ ht
  have:=h.tmps t
  rw[ht]at this
  obtain⟨c,hc,hv⟩:=this
  cases hc
  simp only[be]at hv
  cases hx:a.tmps[t]? with
  |none=>
   have:a.tmps.getD t undef=undef:=by simp[Array.getD_eq_getD_getElem?,hx]
   rw[this]at hv;cases hv
  |some v=>
   have:a.tmps.getD t undef=v:=by simp[Array.getD_eq_getD_getElem?,hx]
   rw[←this,hv]
 drew s a w:=by
  rintro⟨I,M,h⟩
  exact⟨I,M,h.drew⟩
end
end Go.Proofs.YtfpdenjmlnhnnaaGreat
